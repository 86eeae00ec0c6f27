/- A machine on plain data for the code of the program, and what it means in memory. No statement is proved here. -/
import Derived.Test.YtaeadfaldglniaaGreatDoorM3
import Derived.Sort.Row
import Derived.Sort.Grow
import Derived.Shelf.Spec.SlicesGrow
import Derived.Lib.LaidTab
import Derived.Below
set_option linter.unusedVariables false
set_option linter.unusedSimpArgs false

section
namespace Go.Vsi
open Go.RowKit
structure Par where
 t : TypeId
 ls : List Ty
 agg : Bool
abbrev Dat : List Par -> Type
 | [] => Unit
 | p :: r => (zU p.ls).T × Dat r
def GoodD : (ps : List Par) -> Dat ps -> Prop
 | [], _ => True
 | p :: r, x => Good (zU p.ls) x.1 /\ GoodD r x.2
def svs : (ps : List Par) -> Dat ps -> List SV
 | [], _ => []
 | p :: r, x => (match p.agg with
  | true => SV.agg ((zU p.ls).cells x.1)
  | false => match (zU p.ls).cells x.1 with
   | c :: _ => SV.c c
   | [] => SV.undef) :: svs r x.2
structure ParOK (P : Program) (p : Par) : Prop where
 lv : xX P 20 p.t = some p.ls
 yes : p.agg = true -> ∃ fs, P.underlying p.t = some (.struct fs)
 no : p.agg = false -> (∃ k, P.underlying p.t = some (.int k)) \/ P.underlying p.t = some .bool \/ P.underlying p.t = some .string \/ ∃ e, P.underlying p.t = some (.slice e)
 rd : P.readableRec p.t = true
 row : p.t < P.types.size
def CV.isData : CV -> Bool
 | .int .. | .bool _ | .str _ | .dat .. | .pdat .. => true
 | _ => false
theorem qFO : ∀ {t : Ty} {x : t.T}, ∀ c ∈ t.cells x, c.isData = true := by
 intro t
 induction t with
 | prod a b iha ihb =>
  intro x c hc
  simp only [Ty.cells] at hc
  rcases List.mem_append.1 hc with hc | hc
  ·exact iha c hc
  ·exact ihb c hc
 | unit => intro x c hc; cases hc
 | _ => intro x c hc; simp only [Ty.cells, List.mem_singleton] at hc; subst hc; rfl
theorem qPU {F G : Nat -> Prop} {w : World} {c : CV} {v : Value} (hp : c.isData = true) (h : DC F w c v) : BC0 F w c G v := by
 cases c <;> simp [CV.isData] at hp <;> exact ⟨rfl, h⟩
section
variable {H : Type} {enc : TypeId × Value -> H} {P : Program} {w : World}
theorem qN0 {p : Par} (hp : ParOK P p) {base : Nat} {v : Value} {d : DataW H} {q : List MemPlace} (hval : Value.okWide P w .any base p.t v) (hd : DataW.Trod enc P w 0 (fun _ => true) true p.t v d q) :
  ∃ x : (zU p.ls).T, Good (zU p.ls) x /\ BV (fun y => y < w.heap.size) w (match p.agg with
   | true => SV.agg ((zU p.ls).cells x)
   | false => match (zU p.ls).cells x with
    | c :: _ => SV.c c
    | [] => SV.undef) (fun _ => False) v := by
 obtain ⟨fuel, hf⟩ := hd
 obtain ⟨x, h1, h2⟩ := xW 20 hp.lv hf
 refine ⟨x, h2, ?_⟩
 have hc := qCp h1
 have hs : Sep (BC0 (fun y => y < w.heap.size) w) ((zU p.ls).cells x) (fun _ => False) v.cells.toList := by
  have : jC (fun c v => c.isData = true /\ DC (fun y => y < w.heap.size) w c v) ((zU p.ls).cells x) v.cells.toList := hc.impMem fun c v hcm hv => ⟨qFO c hcm, hv⟩
  exact Sep.of_all2 (fun c v hh => qPU hh.1 hh.2) this
 cases hagg : p.agg with
 | true =>
  obtain ⟨fs, hu⟩ := hp.yes hagg
  obtain ⟨cs, rfl, _⟩ := WideShapes.okWide_struct hu hval
  exact ⟨cs, rfl, hs⟩
 | false =>
  have hv : v.cells = #[v] := by
   rcases hp.no hagg with ⟨k, hu⟩ | hu | hu | ⟨e, hu⟩
   ·obtain ⟨n, rfl⟩ := WideShapes.okWide_int hu hval; rfl
   ·obtain ⟨n, rfl⟩ := WideShapes.okWide_bool hu hval; rfl
   ·obtain ⟨n, rfl⟩ := WideShapes.okWide_string hu hval; rfl
   ·obtain ⟨a, l, c, rfl⟩ := WideShapes.okWide_slice hu hval; rfl
  rw [hv] at hs
  match hcs : (zU p.ls).cells x, hs with
  | [], hs => exact hs.elim
  | [c], hs =>
   obtain ⟨B1, B2, k1, k2, k3, _⟩ := hs
   simp only
   exact kD (qEL (fun y hy => (k1 y hy).1) k3)
  | c :: c' :: r, hs => obtain ⟨B1, B2, k1, k2, k3, k4⟩ := hs; exact k4.elim
theorem qKk : ∀ {ps : List Par} {vs : List Value} {ds : List (DataW H)} {q : List MemPlace}, (∀ p ∈ ps, ParOK P p) -> (∀ (j : Nat) t v, (ps.map (·.t))[j]? = some t -> vs[j]? = some v -> ∃ base, Value.okWide P w .any base t v) ->
  DataW.TrodAll enc P w 0 (fun _ => true) true (ps.map (·.t)) vs ds q -> ∃ x : Dat ps, GoodD ps x /\ Sep (BV (fun y => y < w.heap.size) w) (svs ps x) (fun _ => False) vs
 | [], vs, ds, q, _, _, h => by
  obtain ⟨rfl, _, _⟩ := ChangeShapes.trodAll_nil h
  exact ⟨(), trivial, trivial⟩
 | p :: ps, vs, ds, q, hp, hval, h => by
  obtain ⟨v, vs', d, ds', q1, q2, rfl, rfl, rfl, h1, h2⟩ := ChangeShapes.trodAll_cons h
  obtain ⟨base, hv⟩ := hval 0 p.t v rfl rfl
  obtain ⟨x, g1, g2⟩ := qN0 (hp p List.mem_cons_self) hv h1
  obtain ⟨y, g3, g4⟩ := qKk (fun p' hp' => hp p' (List.mem_cons_of_mem _ hp')) (fun j t v ht hv => hval (j + 1) t v (by simpa using ht) (by simpa using hv)) h2
  exact ⟨(x, y), ⟨g1, g3⟩, fun _ => False, fun _ => False, fun _ h => h.elim, fun _ h => h, g2, g4⟩
theorem yW (hl : laidOutB P = true) {W W' : World} (hb : Below W.heap.size W W') : ∀ {ps : List Par} {vs : List Value} {ds : List (DataW H)} {q : List MemPlace}, (∀ p ∈ ps, ParOK P p) ->
  DataW.TrodAll enc P W 0 (fun _ => true) true (ps.map (·.t)) vs ds q -> (∀ x ∈ q, x.block < W.heap.size) -> DataW.TrodAll enc P W' 0 (fun b => decide (b < W.heap.size)) true (ps.map (·.t)) vs ds q
 | [], vs, ds, q, _, h, _ => by
  obtain ⟨rfl, rfl, rfl⟩ := ChangeShapes.trodAll_nil h
  rfl
 | p :: ps, vs, ds, q, hp, h, hlt => by
  obtain ⟨v, vs', d, ds', q1, q2, rfl, rfl, rfl, h1, h2⟩ := ChangeShapes.trodAll_cons h
  have hp1 := hp p List.mem_cons_self
  exact ⟨q1, q2, Below.trod hl hp1.rd hp1.row h1 hb (fun x hx => hlt x (List.mem_append_left _ hx)), yW hl hb (fun p' hp' => hp p' (List.mem_cons_of_mem _ hp')) h2 (fun x hx => hlt x (List.mem_append_right _ hx)), rfl⟩
end
theorem qFo {P : Program} {C : Ctx} {X0 : CallF} (hC : jK P C) (hm : P.follows .mixedOrders = true) (hf : qF2 P C) (hX : wB P C X0) {f : FuncId} {fn : Func} {c : Code} (hfn : C.fs f = some fn) (hb : fn.body = some c)
  {ps : List Par} (hps : ∀ p ∈ ps, ParOK P p) (hsmall : ∀ x, vL (svs ps x) = true) (law : ∀ x : Dat ps, GoodD ps x -> ∃ n, callM C X0 n f (svs ps x) (fun r => r.ret = .c (.bool true)))
  {H : Type} {enc : TypeId × Value -> H} {W : World} {vs : List Value} {ds : List (DataW H)} {q : List MemPlace} (hval : ∀ (j : Nat) t v, (ps.map (·.t))[j]? = some t -> vs[j]? = some v -> ∃ base, Value.okWide P W .any base t v)
  (hd : DataW.TrodAll enc P W 0 (fun _ => true) true (ps.map (·.t)) vs ds q) (htab : TabOK (fun y => y < W.heap.size) W) : Calls P f vs.toArray W fun e W' => e = .returned (.bool true) /\ Below W.heap.size W W' := by
 obtain ⟨x, g1, g2⟩ := qKk hps hval hd
 obtain ⟨n, hn⟩ := law x g1
 refine (qEf hC hm hf hX hfn hb hn (hsmall x) htab g2 (fun y hy => hy) (fun y hy => hy.elim)).mono fun e W' ⟨v, r, he, hk, hp⟩ => ?_
 obtain ⟨h1, h2, h3, F', B1, B2, _, _, _, _, h4, _⟩ := hp
 rw [hk] at h4
 have hv : v = .bool true := h4.2
 subst hv
 exact ⟨he, h2.1, h2.2.1, h2.2.2, h1, fun k hk => h3 k hk (fun h => h)⟩
theorem law_lifted {Ck : Checked} {C : Ctx} {X0 : CallF} {os : Os} (own : ownKnob Ck.prog.godebug = none) (started : os.Started) (hC : jK Ck.prog C) (hm : Ck.prog.follows .mixedOrders = true) (hf : qF2 Ck.prog C) (hX : wB Ck.prog C X0) {f : FuncId} {fn : Func} {c : Code}
  (hfn : C.fs f = some fn) (hb : fn.body = some c) (hinit : Ck.prog.inits.idxOf? f = none) (hlaid : laidOutB Ck.prog = true) {ps : List Par} (hps : ∀ p ∈ ps, ParOK Ck.prog p) (hpar : fn.params.toList = ps.map (·.t)) {tb : TypeId} (hres : fn.resultTypes = #[tb]) (hbool : Ck.prog.underlying tb = some .bool)
  (hsmall : ∀ x, vL (svs ps x) = true) (law : ∀ x : Dat ps, GoodD ps x -> ∃ n, callM C X0 n f (svs ps x) (fun r => r.ret = .c (.bool true)))
  {H : Type} {enc : TypeId × Value -> H} {s : ChangeSpec} (htabs : ∀ W, TabOK (fun y => y < W.heap.size) W) (hvars : s.vars = []) (hspec : ∀ ds : List (DataW H), ds.length = ps.length -> s.fn H ds = { results := [.lit (.bool true)], args := ds }) {conds : List PathCond} {apart fresh handsOn : Bool}
  (witness : ∃ (w : World) (tape : Tape) (i : Input), w.os = os /\ (w.forCall tape i).Shaped Ck.prog /\ i.vars = [] /\ Input.okWide Ck.prog (w.forCall tape i) .any w.heap.size f i /\
   s.pre6 enc Ck.prog fn conds apart (w.forCall tape i).memory i.args /\ ({} : Assume).holds Ck.prog (lone (Frame.enter Ck.prog f i.args .normal) [] (w.forCall tape i))) :
  ReturnsInHanded {} Ck os f .any (s.pre6 enc Ck.prog fn conds apart) (s.post enc Ck.prog fn apart fresh handsOn false) := by
 refine returnsInHanded_of_change_sized own started hinit (hC.fs f fn hfn) witness ?_
 intro W base args ds gs before hval hW _ _ _
 have hW' := hW
 obtain ⟨p, q, hA, hV, rfl, _, _⟩ := hW
 rw [hvars] at hV
 obtain ⟨rfl, rfl⟩ := ChangeShapes.trodVars_none hV
 have hA' : DataW.TrodAll enc Ck.prog W 0 (fun _ => true) true (ps.map (·.t)) args.toList ds p := by rw [<- hpar]; exact hA
 have hlen : ds.length = ps.length := by
  have : ∀ {ts : List TypeId} {vs : List Value} {ds : List (DataW H)} {q : List MemPlace}, DataW.TrodAll enc Ck.prog W 0 (fun _ => true) true ts vs ds q -> ds.length = ts.length := by
   intro ts
   induction ts with
   | nil => intro vs ds q h; obtain ⟨_, rfl, _⟩ := ChangeShapes.trodAll_nil h; rfl
   | cons t ts ih => intro vs ds q h; obtain ⟨v, vs', d, ds', q1, q2, rfl, rfl, rfl, h1, h2⟩ := ChangeShapes.trodAll_cons h; simp [ih h2]
  have := this hA'
  simpa using this
 have hcalls := qFo hC hm hf hX hfn hb hps hsmall law (vs := args.toList) (W := W) (fun j t v ht hv => ⟨base, hval j t v (by rw [<- Array.getElem?_toList, hpar]; exact ht) (by rw [<- Array.getElem?_toList]; exact hv)⟩) hA' (htabs W)
 rw [show args.toList.toArray = args by simp] at hcalls
 refine hcalls.mono fun e W' ⟨he, hnx⟩ => ?_
 subst he
 have hsp := hspec (ds ++ []) (by simpa using hlen)
 have hlt : ∀ x ∈ p, x.block < W.heap.size := fun x hx => hW'.lt x (by simpa using hx)
 refine ⟨_, rfl, ds, [], _, [], p, [], hW', ?_, ?_, ?_, hnx.frame _, fun h => by cases h⟩
 ·rw [hsp, hres]
  refine ChangeShapes.trodAll_mk1 ⟨1, ?_⟩
  simp [DataW.trod, Value.cells, hbool]
 ·rw [hsp, hpar]
  simp only [List.append_nil]
  exact yW hlaid hnx hps hA' hlt
 ·rw [hsp, hvars]
  rfl
theorem law_lifted_laid {Ck : Checked} {C : Ctx} {X0 : CallF} {os : Os} (own : ownKnob Ck.prog.godebug = none) (started : os.Started) (hC : jK Ck.prog C) (hm : Ck.prog.follows .mixedOrders = true) (hf : qF2 Ck.prog C) (hX : wB Ck.prog C X0) {f : FuncId} {fn : Func} {c : Code}
  (hfn : C.fs f = some fn) (hb : fn.body = some c) (hinit : Ck.prog.inits.idxOf? f = none) (hlaid : laidOutB Ck.prog = true) {ps : List Par} (hps : ∀ p ∈ ps, ParOK Ck.prog p) (hpar : fn.params.toList = ps.map (·.t)) {tb : TypeId} (hres : fn.resultTypes = #[tb]) (hbool : Ck.prog.underlying tb = some .bool)
  (hsmall : ∀ x, vL (svs ps x) = true) (law : ∀ x : Dat ps, GoodD ps x -> ∃ n, callM C X0 n f (svs ps x) (fun r => r.ret = .c (.bool true)))
  {H : Type} {enc : TypeId × Value -> H} {s : ChangeSpec} {X : World -> Prop} (hXh : ∀ w w' : World, w.heap = w'.heap -> X w -> X w') (htabs : ∀ W, X W -> TabOK (fun y => y < W.heap.size) W) (hvars : s.vars = []) (hspec : ∀ ds : List (DataW H), ds.length = ps.length -> s.fn H ds = { results := [.lit (.bool true)], args := ds }) {conds : List PathCond} {apart fresh handsOn : Bool}
  (witness : ∃ (w : World) (tape : Tape) (i : Input), w.os = os /\ (w.forCall tape i).Shaped Ck.prog /\ i.vars = [] /\ Input.okWide Ck.prog (w.forCall tape i) .any w.heap.size f i /\
   ((s.pre enc Ck.prog fn conds apart (w.forCall tape i).memory i.args /\ X (w.forCall tape i).memory) /\ sizedMet enc Ck.prog fn (OpenSpec.ofChange s) apart (w.forCall tape i).memory i.args) /\ ({} : Assume).holds Ck.prog (lone (Frame.enter Ck.prog f i.args .normal) [] (w.forCall tape i))) :
  ReturnsInHanded {} Ck os f .any (fun w args => (s.pre enc Ck.prog fn conds apart w args /\ X w) /\ sizedMet enc Ck.prog fn (OpenSpec.ofChange s) apart w args) (s.post enc Ck.prog fn apart fresh handsOn false) := by
 refine returnsInHanded_of_change_and (X := fun w _ => X w) (fun w w' _ hh h => hXh w w' hh h) own started hinit (hC.fs f fn hfn) witness ?_
 intro W base args ds gs before hval hW _ _ hL _
 have hW' := hW
 obtain ⟨p, q, hA, hV, rfl, _, _⟩ := hW
 rw [hvars] at hV
 obtain ⟨rfl, rfl⟩ := ChangeShapes.trodVars_none hV
 have hA' : DataW.TrodAll enc Ck.prog W 0 (fun _ => true) true (ps.map (·.t)) args.toList ds p := by rw [<- hpar]; exact hA
 have hlen : ds.length = ps.length := by
  have : ∀ {ts : List TypeId} {vs : List Value} {ds : List (DataW H)} {q : List MemPlace}, DataW.TrodAll enc Ck.prog W 0 (fun _ => true) true ts vs ds q -> ds.length = ts.length := by
   intro ts
   induction ts with
   | nil => intro vs ds q h; obtain ⟨_, rfl, _⟩ := ChangeShapes.trodAll_nil h; rfl
   | cons t ts ih => intro vs ds q h; obtain ⟨v, vs', d, ds', q1, q2, rfl, rfl, rfl, h1, h2⟩ := ChangeShapes.trodAll_cons h; simp [ih h2]
  have := this hA'
  simpa using this
 have hcalls := qFo hC hm hf hX hfn hb hps hsmall law (vs := args.toList) (W := W) (fun j t v ht hv => ⟨base, hval j t v (by rw [<- Array.getElem?_toList, hpar]; exact ht) (by rw [<- Array.getElem?_toList]; exact hv)⟩) hA' (htabs W hL)
 rw [show args.toList.toArray = args by simp] at hcalls
 refine hcalls.mono fun e W' ⟨he, hnx⟩ => ?_
 subst he
 have hsp := hspec (ds ++ []) (by simpa using hlen)
 have hlt : ∀ x ∈ p, x.block < W.heap.size := fun x hx => hW'.lt x (by simpa using hx)
 refine ⟨_, rfl, ds, [], _, [], p, [], hW', ?_, ?_, ?_, hnx.frame _, fun h => by cases h⟩
 ·rw [hsp, hres]
  refine ChangeShapes.trodAll_mk1 ⟨1, ?_⟩
  simp [DataW.trod, Value.cells, hbool]
 ·rw [hsp, hpar]
  simp only [List.append_nil]
  exact yW hlaid hnx hps hA' hlt
 ·rw [hsp, hvars]
  rfl
def qH4 : List CV -> List Value -> Bool
 | [], [] => true
 | c :: cs, v :: vs => (match c, v with
  | .int k n, .int k' m => decide (k = k') && decide (n = m)
  | .bool b, .bool b' => b == b'
  | .str s, .string x => s == x.data.toList
  | .emp _ _, .slice none 0 0 => true
  | .kon (.pointer none), .pointer none => true
  | .kon .nilFunc, .nilFunc => true
  | .kon .nilIface, .nilIface => true
  | .kon (.map none), .map none => true
  | .undef, v => v.oneCell'
  | _, _ => false) && qH4 cs vs
 | _, _ => false
theorem qDW {ρ : Env} {w : World} : ∀ {cs : List CV} {vs : List Value}, qH4 cs vs = true -> jC (zQ ρ w) cs vs /\ ∀ c ∈ cs, ∀ e t l, c ≠ .dat e t l
 | [], [], _ => ⟨trivial, fun c hc => by cases hc⟩
 | [], _ :: _, h => by simp [qH4] at h
 | _ :: _, [], h => by simp [qH4] at h
 | c :: cs, v :: vs, h => by
  simp only [qH4, Bool.and_eq_true] at h
  obtain ⟨h1, h2⟩ := h
  obtain ⟨q1, q2⟩ := qDW (ρ := ρ) (w := w) h2
  have key : zQ ρ w c v /\ ∀ e t l, c ≠ .dat e t l := by
   split at h1
   ·rename_i k n k' m
    simp only [Bool.and_eq_true, decide_eq_true_eq] at h1
    obtain ⟨rfl, rfl⟩ := h1
    exact ⟨rfl, by intro e t l hh; cases hh⟩
   ·rename_i b b'
    have : b = b' := by simpa using h1
    subst this
    exact ⟨rfl, by intro e t l hh; cases hh⟩
   ·rename_i s x
    have : s = x.data.toList := by simpa using h1
    subst this
    exact ⟨rfl, by intro e t l hh; cases hh⟩
   ·exact ⟨⟨none, rfl⟩, by intro e t l hh; cases hh⟩
   ·exact ⟨⟨rfl, rfl⟩, by intro e t l hh; cases hh⟩
   ·exact ⟨⟨rfl, rfl⟩, by intro e t l hh; cases hh⟩
   ·exact ⟨⟨rfl, rfl⟩, by intro e t l hh; cases hh⟩
   ·exact ⟨⟨rfl, rfl⟩, by intro e t l hh; cases hh⟩
   ·exact ⟨h1, by intro e t l hh; cases hh⟩
   ·cases h1
  refine ⟨⟨key.1, q1⟩, fun c' hc' => ?_⟩
  rcases List.mem_cons.1 hc' with rfl | hc'
  ·exact key.2
  ·exact q2 c' hc'
def qBH (P : Program) : List Field -> List (Nat × TypeId) -> Bool
 | [], [] => true
 | f :: fs, (off, t) :: r => f.offset == off && f.type == t && (P.info? t).isSome && qBH P fs r
 | _, _ => false
theorem qDJ {P : Program} : ∀ {fs : List Field} {l : List (Nat × TypeId)}, qBH P fs l = true -> fs.length = l.length /\ ∀ (f : Nat) off ft, l[f]? = some (off, ft) -> ∃ fd : Field, fs[f]? = some fd /\ fd.offset = off /\ fd.type = ft /\ (P.info? ft).isSome = true
 | [], [], _ => ⟨rfl, fun f off ft h => by simp at h⟩
 | [], _ :: _, h => by simp [qBH] at h
 | _ :: _, [], h => by simp [qBH] at h
 | f :: fs, (off, t) :: r, h => by
  simp only [qBH, Bool.and_eq_true, beq_iff_eq] at h
  obtain ⟨⟨⟨h1, h2⟩, h3⟩, h4⟩ := h
  obtain ⟨q1, q2⟩ := qDJ h4
  refine ⟨by simp [q1], fun k off' ft' hk => ?_⟩
  cases k with
  | zero =>
   simp only [List.getElem?_cons_zero, Option.some.injEq, Prod.mk.injEq] at hk
   obtain ⟨rfl, rfl⟩ := hk
   exact ⟨f, rfl, h1, h2, h3⟩
  | succ k => exact q2 k off' ft' (by simpa using hk)
def tiB (P : Program) (t : TypeId) (i : TI) : Bool := match P.info? t, P.underlying t with
 | some inf, some d => decide (inf.size = i.size) && decide (inf.bytes = i.bytes) &&
  (match inf.zero with
   | some z => qH4 i.zero z.cells.toList && decide (z.cells.size = i.size) && (match i.isAgg, z with | true, .agg _ => true | true, _ => false | false, .agg _ => false | false, .tuple _ => false | false, _ => true)
   | none => false) &&
  (i.isAgg == (match d with | .struct _ | .array _ _ => true | _ => false)) &&
  (match i.elem with | none => true | some e => (match d with | .slice e' => e == e' | _ => false)) &&
  (match d with | .struct fs => qBH P fs.toList i.fields | _ => i.fields.isEmpty) &&
  (match i.sty, d with
   | some (.int k), .int k' => decide (k = k') | some (.int _), _ => false
   | some .bool, .bool => true | some .bool, _ => false
   | some .str, .string => true | some .str, _ => false
   | some (.sl e _), .slice e' => e == e' | some (.sl _ _), _ => false
   | _, _ => true) &&
  (match i.eqc, d with
   | [], _ => true
   | us, .struct fs => !P.stoodInHeld t && !P.eqGuardType P.depth t && eqB P 0 fs.toList us
   | _, _ => false) &&
  (match i.mpt with
   | none => true
   | some (k, v) => (match d with | .map k' v' => k' == k && v' == v | _ => false))
 | _, _ => false
theorem qNt {P : Program} {t : TypeId} {i : TI} (h : tiB P t i = true) : qMf P t i := by
 unfold tiB at h
 split at h
 ·rename_i inf d hinf hund
  simp only [Bool.and_eq_true, decide_eq_true_eq] at h
  obtain ⟨⟨⟨⟨⟨⟨⟨⟨h1, h2⟩, h3⟩, h4⟩, h5⟩, h6⟩, h7⟩, h8⟩, h9⟩ := h
  split at h3
  ·rename_i z hz
   simp only [Bool.and_eq_true, decide_eq_true_eq] at h3
   obtain ⟨⟨k1, k2⟩, k3⟩ := h3
   refine {
    inf := ⟨inf, hinf, h1, h2, z, hz, fun ρ w => (qDW k1).1, k2, fun ha => ?_, fun ha => ?_⟩
    und := ⟨d, hund, by rw [beq_iff_eq.1 h4]; cases d <;> rfl⟩
    elem := fun e he => ?_
    flds := fun fs hfs => ?_
    strct := fun hne => ?_
    nodat := (qDW (ρ := bare fun _ => False) (w := default) k1).2
    tyInt := fun k hk => ?_
    tyBool := fun hk => ?_
    tyStr := fun hk => ?_
    tySl := fun e u hk => ?_
    mpt := fun kt vt he => ?_
    eqs := fun hne => ?_ }
   ·rw [ha] at k3
    cases z <;> simp at k3
    exact ⟨_, rfl⟩
   ·rw [ha] at k3
    cases z <;> simp at k3 <;> rfl
   ·rw [he] at h5
    cases d <;> simp at h5
    subst h5; exact hund
   ·rw [hfs] at hund
    simp only [Option.some.injEq] at hund
    subst hund
    obtain ⟨q1, q2⟩ := qDJ h6
    refine ⟨by simpa using q1, fun f off ft hf => ?_⟩
    obtain ⟨fd, e1, e2⟩ := q2 f off ft hf
    exact ⟨fd, by simpa using e1, e2⟩
   ·cases d with
    | struct fs => exact ⟨fs, hund⟩
    | _ => simp only [List.isEmpty_iff] at h6; exact absurd h6 hne
   ·rw [hk] at h7
    cases d <;> simp at h7
    subst h7; exact hund
   ·rw [hk] at h7
    cases d <;> simp at h7
    exact hund
   ·rw [hk] at h7
    cases d <;> simp at h7
    exact hund
   ·rw [hk] at h7
    cases d <;> simp at h7
    subst h7; exact hund
   ·rw [he] at h9
    cases d <;> simp at h9
    obtain ⟨rfl, rfl⟩ := h9; exact hund
   ·split at h8
    ·rename_i he; exact absurd he hne
    ·rename_i us fs he
     simp only [Bool.and_eq_true, Bool.not_eq_true'] at h8
     exact ⟨h8.1.1, h8.1.2, fs, hund, h8.2⟩
    ·cases h8
  ·cases h3
 ·cases h
def qFd : List Nat -> Bool
 | [] => true
 | x :: l => !l.contains x && qFd l
theorem qCO : ∀ {l : List Nat}, qFd l = true -> l.Nodup
 | [], _ => List.nodup_nil
 | x :: l, h => by
  simp only [qFd, Bool.and_eq_true, Bool.not_eq_true', List.contains_eq_mem, decide_eq_false_iff_not] at h
  exact List.nodup_cons.2 ⟨h.1, qCO h.2⟩
def fnB (fi : Fi) (fn : Func) : Bool := !(fn.name == "runtime.NumGoroutine") && match fn.body with
 | some c => qFd (zZ c) && qFd (vS (fun k => (qL (1000000 + k) fi.loops).isSome) c)
 | none => true
theorem qNU {P : Program} {tis : List (Nat × TI)} {fns : List (Nat × Func)} {fi : FuncId -> Fi} (h1 : (tis.all fun x => tiB P x.1 x.2) = true) (h2 : ∀ x ∈ fns, P.funcs[x.1]? = some x.2) :
  jK P { ti := fun t => qL t tis, fs := fun f => qL f fns, fi := fi } where
 ti := fun t i h => qNt (List.all_eq_true.1 h1 (t, i) (yC h))
 fs := fun f fn h => h2 (f, fn) (yC h)
theorem fns_ok {P : Program} {ti : TypeId -> Option TI} {fns : List (Nat × Func)} {fi : FuncId -> Fi} (h : (fns.all fun x => fnB (fi x.1) x.2) = true) : qF2 P { ti := ti, fs := fun f => qL f fns, fi := fi } where
 name := fun f fn hf => by
  have := List.all_eq_true.1 h (f, fn) (yC hf)
  unfold fnB at this
  simp only [Bool.and_eq_true, Bool.not_eq_true'] at this
  exact this.1
 ids := fun f fn c hf hc => by
  have := List.all_eq_true.1 h (f, fn) (yC hf)
  unfold fnB at this
  simp only [hc, Bool.and_eq_true] at this
  exact qCO this.2.1
 cuts := fun f fn c hf hc => by
  have := List.all_eq_true.1 h (f, fn) (yC hf)
  unfold fnB at this
  simp only [hc, Bool.and_eq_true] at this
  exact qCO this.2.2
def noX : CallF := fun _ _ _ => False
theorem noX_ok (P : Program) (C : Ctx) : wB P C noX := fun f args K h => h.elim
theorem noX_mono : CallF.Mono noX := fun f a K K' _ h => h
inductive T0 where
 | undef | int (k : IntKind) | bool | str
 | emp (e : TypeId) (t : Ty) | dat (e : TypeId) (t : Ty)
 | own (d : Nat) | vw (d : Nat) | nref (d off : Nat)
 | pbox (b off : Nat) | pelt (d off : Nat) | pn (d off off2 : Nat)
 | pdat (e : TypeId) (t : Ty) (off : Nat)
 | row (e : TypeId) (t : Ty) (m : Nat)
 | mrow (e : TypeId) (t : Ty) (m : Nat)
abbrev T0.V : T0 -> Type
 | .int _ => Int | .bool => Bool | .str => List UInt8
 | .dat _ t => List t.T
 | .vw _ => Nat × Nat | .nref _ _ => Nat | .pelt _ _ => Nat | .pn _ _ _ => Nat × Nat
 | .pdat _ t _ => t.T
 | .row _ t _ => List t.T
 | .mrow _ t _ => List t.T
 | .undef => Unit | .emp _ _ => Unit | .own _ => Unit | .pbox _ _ => Unit
def T0.fill : (T : T0) -> T.V -> CV
 | .undef, _ => .undef | .int k, n => .int k n | .bool, b => .bool b | .str, s => .str s
 | .emp e t, _ => .emp e t | .dat e t, l => .dat e t l
 | .own d, _ => .own d | .vw d, p => .vw d p.1 p.2 | .nref d off, i => .nref d i off
 | .pbox b off, _ => .pbox b off | .pelt d off, i => .pelt d i off | .pn d off off2, p => .pn d p.1 off p.2 off2
 | .pdat e t off, x => .pdat e t x off
 | .row e t m, l => .row { e := e, t := t, l := l, m := m }
 | .mrow e t m, l => .row { e := e, t := t, l := [], m := m, hole := some (0, zF), mp := l }
def T0.fit : (T : T0) -> CV -> Option T.V
 | .undef, .undef => some ()
 | .int k, .int k' n => if k' = k then some n else none
 | .bool, .bool b => some b
 | .str, .str s => some s
 | .emp e t, .emp e' t' => if e' = e /\ t' = t then some () else none
 | .dat e t, .dat e' t' l => if e' = e then (if h : t' = t then some (xG (t := .sl e t') (u := .sl e t) (by rw [h]) l) else none) else none
 | .own d, .own d' => if d' = d then some () else none
 | .vw d, .vw d' a b => if d' = d then some (a, b) else none
 | .nref d off, .nref d' i off' => if d' = d /\ off' = off then some i else none
 | .pbox b off, .pbox b' off' => if b' = b /\ off' = off then some () else none
 | .pelt d off, .pelt d' i off' => if d' = d /\ off' = off then some i else none
 | .pn d off off2, .pn d' i off' j off2' => if d' = d /\ off' = off /\ off2' = off2 then some (i, j) else none
 | .pdat e t off, .pdat e' t' x off' => if e' = e /\ off' = off then (if h : t' = t then some (xG h x) else none) else none
 | .mrow e t m, .row r => if r.e = e /\ r.m = m /\ r.hole = some (0, zF) /\ r.l.isEmpty = true then (if h : r.t = t then some (xG (t := .sl e r.t) (u := .sl e t) (by rw [h]) r.mp) else none) else none
 | .row e t m, .row r => if r.e = e /\ r.m = m /\ r.hole = none /\ r.mp.isEmpty = true then (if h : r.t = t then some (xG (t := .sl e r.t) (u := .sl e t) (by rw [h]) r.l) else none) else none
 | _, _ => none
theorem T0.fit_fill : ∀ {T : T0} {c : CV} {v : T.V}, T.fit c = some v -> c = T.fill v := by
 intro T c v h
 cases T <;> cases c <;> simp only [T0.fit] at h <;> try (cases h; done)
 case undef.undef => rfl
 case int.int k k' n =>
  split at h
  ·rename_i hk; subst hk; cases h; rfl
  ·cases h
 case bool.bool => cases h; rfl
 case str.str => cases h; rfl
 case emp.emp =>
  split at h
  ·rename_i hk; obtain ⟨rfl, rfl⟩ := hk; rfl
  ·cases h
 case dat.dat =>
  split at h
  ·rename_i hk; subst hk
   split at h
   ·rename_i hk; subst hk; cases h; rfl
   ·cases h
  ·cases h
 case own.own =>
  split at h
  ·rename_i hk; subst hk; rfl
  ·cases h
 case vw.vw =>
  split at h
  ·rename_i hk; subst hk; cases h; rfl
  ·cases h
 case nref.nref =>
  split at h
  ·rename_i hk; obtain ⟨rfl, rfl⟩ := hk; cases h; rfl
  ·cases h
 case pbox.pbox =>
  split at h
  ·rename_i hk; obtain ⟨rfl, rfl⟩ := hk; rfl
  ·cases h
 case pelt.pelt =>
  split at h
  ·rename_i hk; obtain ⟨rfl, rfl⟩ := hk; cases h; rfl
  ·cases h
 case pn.pn =>
  split at h
  ·rename_i hk; obtain ⟨rfl, rfl, rfl⟩ := hk; cases h; rfl
  ·cases h
 case pdat.pdat =>
  split at h
  ·rename_i hk; obtain ⟨rfl, rfl⟩ := hk
   split at h
   ·rename_i hk; subst hk; cases h; rfl
   ·cases h
  ·cases h
 case row.row e t m r =>
  obtain ⟨e', t', l, m', hole, mp⟩ := r
  split at h
  ·rename_i hk
   obtain ⟨h1, h2, h3, h4⟩ := hk
   simp only at h1 h2 h3 h4
   rw [List.isEmpty_iff] at h4
   subst h1; subst h2; subst h3; subst h4
   split at h
   ·rename_i hk; simp only at hk; subst hk; cases h; rfl
   ·cases h
  ·cases h
 case mrow.row e t m r =>
  obtain ⟨e', t', l, m', hole, mp⟩ := r
  split at h
  ·rename_i hk
   obtain ⟨h1, h2, h3, h4⟩ := hk
   simp only at h1 h2 h3 h4
   rw [List.isEmpty_iff] at h4
   subst h1; subst h2; subst h3; subst h4
   split at h
   ·rename_i hk; simp only at hk; subst hk; cases h; rfl
   ·cases h
  ·cases h
abbrev V0s : List T0 -> Type
 | [] => Unit
 | t :: r => t.V × V0s r
def qJW : (l : List T0) -> V0s l -> List CV
 | [], _ => []
 | t :: r, v => t.fill v.1 :: qJW r v.2
def qMS : (l : List T0) -> List CV -> Option (V0s l)
 | [], [] => some ()
 | t :: r, c :: cs => match t.fit c with
  | some v => match qMS r cs with
   | some vs => some (v, vs)
   | none => none
  | none => none
 | _, _ => none
theorem qCY : ∀ {l : List T0} {cs : List CV} {v : V0s l}, qMS l cs = some v -> cs = qJW l v
 | [], [], v, h => rfl
 | [], _ :: _, v, h => by simp [qMS] at h
 | _ :: _, [], v, h => by simp [qMS] at h
 | t :: r, c :: cs, v, h => by
  simp only [qMS] at h
  split at h
  ·rename_i x hx
   split at h
   ·rename_i y hy
    cases h
    rw [qJW, <- T0.fit_fill hx, <- qCY hy]
   ·cases h
  ·cases h
inductive T1 where
 | o (t : T0)
 | fn (f : FuncId) (sh : List (Bool × Nat)) (n : Nat) (cs : List T0)
 | boxr (e : TypeId) (cs : List T0)
abbrev T1.V : T1 -> Type
 | .o t => t.V
 | .fn _ _ _ cs => V0s cs
 | .boxr _ cs => V0s cs
def T1.fill : (T : T1) -> T.V -> CV
 | .o t, v => t.fill v
 | .fn f sh n cs, v => .fn f sh n (qJW cs v)
 | .boxr e cs, v => .boxr e (qJW cs v)
def T1.fit : (T : T1) -> CV -> Option T.V
 | .o t, c => t.fit c
 | .fn f sh n cs, c => match c with
  | .fn f' sh' n' cs' => if f' = f /\ sh' = sh /\ n' = n then qMS cs cs' else none
  | _ => none
 | .boxr e cs, c => match c with
  | .boxr e' cs' => if e' = e then qMS cs cs' else none
  | _ => none
theorem T1.fit_fill : ∀ {T : T1} {c : CV} {v : T.V}, T.fit c = some v -> c = T.fill v
 | .o t, c, v, h => T0.fit_fill h
 | .fn f sh n cs, c, v, h => by
  simp only [T1.fit] at h
  split at h
  ·split at h
   ·rename_i hk
    obtain ⟨rfl, rfl, rfl⟩ := hk
    rw [qCY h]; rfl
   ·cases h
  ·cases h
 | .boxr e cs, c, v, h => by
  simp only [T1.fit] at h
  split at h
  ·split at h
   ·rename_i hk
    subst hk
    rw [qCY h]; rfl
   ·cases h
  ·cases h
abbrev V1s : List T1 -> Type
 | [] => Unit
 | t :: r => t.V × V1s r
def qIp : (l : List T1) -> V1s l -> List CV
 | [], _ => []
 | t :: r, v => t.fill v.1 :: qIp r v.2
def qLN : (l : List T1) -> List CV -> Option (V1s l)
 | [], [] => some ()
 | t :: r, c :: cs => match t.fit c with
  | some v => match qLN r cs with
   | some vs => some (v, vs)
   | none => none
  | none => none
 | _, _ => none
theorem qBd : ∀ {l : List T1} {cs : List CV} {v : V1s l}, qLN l cs = some v -> cs = qIp l v
 | [], [], v, h => rfl
 | [], _ :: _, v, h => by simp [qLN] at h
 | _ :: _, [], v, h => by simp [qLN] at h
 | t :: r, c :: cs, v, h => by
  simp only [qLN] at h
  split at h
  ·rename_i x hx
   split at h
   ·rename_i y hy
    cases h
    rw [qIp, <- T1.fit_fill hx, <- qBd hy]
   ·cases h
  ·cases h
inductive TS where
 | u
 | c (t : T1)
 | a (ts : List T1)
 | k (f : FuncId) (n : Nat) (ts : List T1)
abbrev TS.V : TS -> Type
 | .u => Unit
 | .c t => t.V
 | .a ts => V1s ts
 | .k _ _ ts => V1s ts
def TS.fill : (T : TS) -> T.V -> SV
 | .u, _ => .undef
 | .c t, v => .c (t.fill v)
 | .a ts, v => .agg (qIp ts v)
 | .k f n ts, v => .clo f n (qIp ts v)
def TS.fit : (T : TS) -> SV -> Option T.V
 | .u, x => match x with
  | .undef => some ()
  | _ => none
 | .c t, x => match x with
  | .c y => t.fit y
  | _ => none
 | .a ts, x => match x with
  | .agg ys => qLN ts ys
  | _ => none
 | .k f n ts, x => match x with
  | .clo f' n' ys => if f' = f /\ n' = n then qLN ts ys else none
  | _ => none
theorem TS.fit_fill : ∀ {T : TS} {x : SV} {v : T.V}, T.fit x = some v -> x = T.fill v
 | .u, x, v, h => by
  simp only [TS.fit] at h
  split at h
  ·rfl
  ·cases h
 | .c t, x, v, h => by
  simp only [TS.fit] at h
  split at h
  ·rw [T1.fit_fill h]; rfl
  ·cases h
 | .a ts, x, v, h => by
  simp only [TS.fit] at h
  split at h
  ·rw [qBd h]; rfl
  ·cases h
 | .k f n ts, x, v, h => by
  simp only [TS.fit] at h
  split at h
  ·split at h
   ·rename_i hk
    obtain ⟨rfl, rfl⟩ := hk
    rw [qBd h]; rfl
   ·cases h
  ·cases h
abbrev VA : List TS -> Type
 | [] => Unit
 | t :: r => t.V × VA r
def qAr : (l : List TS) -> VA l -> List SV
 | [], _ => []
 | t :: r, v => t.fill v.1 :: qAr r v.2
def qNk : (l : List TS) -> List SV -> Option (VA l)
 | [], [] => some ()
 | t :: r, c :: cs => match t.fit c with
  | some v => match qNk r cs with
   | some vs => some (v, vs)
   | none => none
  | none => none
 | _, _ => none
theorem qFC : ∀ {l : List TS} {cs : List SV} {v : VA l}, qNk l cs = some v -> cs = qAr l v
 | [], [], v, h => rfl
 | [], _ :: _, v, h => by simp [qNk] at h
 | _ :: _, [], v, h => by simp [qNk] at h
 | t :: r, c :: cs, v, h => by
  simp only [qNk] at h
  split at h
  ·rename_i x hx
   split at h
   ·rename_i y hy
    cases h
    rw [qAr, <- TS.fit_fill hx, <- qFC hy]
   ·cases h
  ·cases h
abbrev VS : List (Nat × TS) -> Type
 | [] => Unit
 | t :: r => t.2.V × VS r
def qLg : (l : List (Nat × TS)) -> VS l -> List (Nat × SV)
 | [], _ => []
 | t :: r, v => (t.1, t.2.fill v.1) :: qLg r v.2
def qNh : (l : List (Nat × TS)) -> List (Nat × SV) -> Option (VS l)
 | [], [] => some ()
 | t :: r, c :: cs => if c.1 = t.1 then (match t.2.fit c.2 with
  | some v => match qNh r cs with
   | some vs => some (v, vs)
   | none => none
  | none => none) else none
 | _, _ => none
theorem qFz : ∀ {l : List (Nat × TS)} {cs : List (Nat × SV)} {v : VS l}, qNh l cs = some v -> cs = qLg l v
 | [], [], v, h => rfl
 | [], _ :: _, v, h => by simp [qNh] at h
 | _ :: _, [], v, h => by simp [qNh] at h
 | t :: r, c :: cs, v, h => by
  simp only [qNh] at h
  split at h
  ·rename_i hk
   split at h
   ·rename_i x hx
    split at h
    ·rename_i y hy
     cases h
     rw [qLg, <- TS.fit_fill hx, <- qFz hy, <- hk]
    ·cases h
   ·cases h
  ·cases h
inductive RK where
 | row | map | fz
abbrev RK.V : RK -> Type -> Type
 | .fz, α => Nat × α
 | .row, α => α
 | .map, α => α
structure RT where
 d : Nat
 e : TypeId
 t : Ty
 m : Nat
 k : RK
def RT.fill : (t : RT) -> t.k.V (List t.t.T) -> Row
 | ⟨_, e, t, m, .row⟩, v => { e := e, t := t, l := v, m := m }
 | ⟨_, e, t, m, .map⟩, v => { e := e, t := t, l := [], m := m, hole := some (0, zF), mp := v }
 | ⟨_, e, t, m, .fz⟩, v => { e := e, t := t, l := v.2, m := m, hole := some (v.1, wT) }
def RT.fit : (t : RT) -> Row -> Option (t.k.V (List t.t.T))
 | ⟨_, e, t, m, .row⟩, c => if c.e = e /\ c.m = m /\ c.hole = none /\ c.mp.isEmpty = true then (if h : c.t = t then some (xG (t := .sl 0 c.t) (u := .sl 0 t) (by rw [h]) c.l) else none) else none
 | ⟨_, e, t, m, .map⟩, c => if c.e = e /\ c.m = m /\ c.hole = some (0, zF) /\ c.l.isEmpty = true then (if h : c.t = t then some (xG (t := .sl 0 c.t) (u := .sl 0 t) (by rw [h]) c.mp) else none) else none
 | ⟨_, e, t, m, .fz⟩, c => match c.hole with
  | some (k, off) => if c.e = e /\ c.m = m /\ off = wT /\ c.mp.isEmpty = true then (if h : c.t = t then some (k, xG (t := .sl 0 c.t) (u := .sl 0 t) (by rw [h]) c.l) else none) else none
  | none => none
theorem RT.fit_fill : ∀ {t : RT} {c : Row} {v : t.k.V (List t.t.T)}, t.fit c = some v -> c = t.fill v := by
 rintro ⟨d, e, t, m, k⟩ ⟨e', t', l, m', hole, mp⟩ v h
 cases k with
 | row =>
  simp only [RT.fit] at h
  split at h
  ·rename_i hk
   obtain ⟨rfl, rfl, rfl, h4⟩ := hk
   rw [List.isEmpty_iff] at h4
   subst h4
   split at h
   ·rename_i hk; subst hk; cases h; rfl
   ·cases h
  ·cases h
 | map =>
  simp only [RT.fit] at h
  split at h
  ·rename_i hk
   obtain ⟨rfl, rfl, rfl, h4⟩ := hk
   rw [List.isEmpty_iff] at h4
   subst h4
   split at h
   ·rename_i hk; subst hk; cases h; rfl
   ·cases h
  ·cases h
 | fz =>
  cases hole with
  | none => simp [RT.fit] at h
  | some p =>
   obtain ⟨k, off⟩ := p
   simp only [RT.fit] at h
   split at h
   ·rename_i hk
    obtain ⟨rfl, rfl, rfl, h4⟩ := hk
    rw [List.isEmpty_iff] at h4
    subst h4
    split at h
    ·rename_i hk; subst hk; cases h; rfl
    ·cases h
   ·cases h
abbrev VR : List RT -> Type
 | [] => Unit
 | t :: r => t.k.V (List t.t.T) × VR r
def qLh : (l : List RT) -> VR l -> List (Nat × Row)
 | [], _ => []
 | t :: r, v => (t.d, t.fill v.1) :: qLh r v.2
def qNi : (l : List RT) -> List (Nat × Row) -> Option (VR l)
 | [], [] => some ()
 | t :: r, c :: cs => if c.1 = t.d then (match t.fit c.2 with
  | some v => match qNi r cs with
   | some vs => some (v, vs)
   | none => none
  | none => none) else none
 | _, _ => none
theorem qFA : ∀ {l : List RT} {cs : List (Nat × Row)} {v : VR l}, qNi l cs = some v -> cs = qLh l v
 | [], [], v, h => rfl
 | [], _ :: _, v, h => by simp [qNi] at h
 | _ :: _, [], v, h => by simp [qNi] at h
 | t :: r, c :: cs, v, h => by
  simp only [qNi] at h
  split at h
  ·rename_i hk
   split at h
   ·rename_i x hx
    split at h
    ·rename_i y hy
     cases h
     rw [qLh, <- RT.fit_fill hx, <- qFA hy, <- hk]
    ·cases h
   ·cases h
  ·cases h
structure BT where
 b : Nat
 e : TypeId
 cs : List T1
 ro : Bool
 it : Bool
abbrev VB : List BT -> Type
 | [] => Unit
 | t :: r => V1s t.cs × VB r
def qLi : (l : List BT) -> VB l -> List (Nat × Box)
 | [], _ => []
 | t :: r, v => (t.b, { e := t.e, cs := qIp t.cs v.1, ro := t.ro, it := t.it }) :: qLi r v.2
def qNj : (l : List BT) -> List (Nat × Box) -> Option (VB l)
 | [], [] => some ()
 | t :: r, c :: cs => if c.1 = t.b /\ c.2.e = t.e /\ c.2.ro = t.ro /\ c.2.it = t.it then (match qLN t.cs c.2.cs with
   | some v => match qNj r cs with
    | some vs => some (v, vs)
    | none => none
   | none => none) else none
 | _, _ => none
theorem qFB : ∀ {l : List BT} {cs : List (Nat × Box)} {v : VB l}, qNj l cs = some v -> cs = qLi l v
 | [], [], v, h => rfl
 | [], _ :: _, v, h => by simp [qNj] at h
 | _ :: _, [], v, h => by simp [qNj] at h
 | ⟨b, e, ts, ro, it⟩ :: r, (b', ⟨e', xs, ro', it'⟩) :: cs, v, h => by
  simp only [qNj] at h
  split at h
  ·rename_i hk
   obtain ⟨rfl, rfl, rfl, rfl⟩ := hk
   split at h
   ·rename_i x hx
    split at h
    ·rename_i y hy
     cases h
     rw [qLi, <- qFB hy, <- qBd hx]
    ·cases h
   ·cases h
  ·cases h
structure ST where
 s : List (Nat × TS)
 r : List RT
 b : List BT
 lR : List Nat
 lB : List Nat
abbrev ST.V (T : ST) : Type := VS T.s × VR T.r × VB T.b
def ST.fill (T : ST) (v : T.V) : St := ⟨qLg T.s v.1, qLh T.r v.2.1, qLi T.b v.2.2, T.lR, T.lB⟩
def ST.fit (T : ST) (x : St) : Option T.V := match qNh T.s x.slots with
 | some a => match qNi T.r x.rows with
  | some b => match qNj T.b x.boxes with
   | some c => if x.lentR = T.lR /\ x.lentB = T.lB then some (a, b, c) else none
   | none => none
  | none => none
 | none => none
theorem ST.fit_fill {T : ST} {x : St} {v : T.V} (h : T.fit x = some v) : x = T.fill v := by
 obtain ⟨s, r, b, lR, lB⟩ := x
 simp only [ST.fit] at h
 split at h
 ·rename_i a ha
  split at h
  ·rename_i b hb
   split at h
   ·rename_i c hc
    split at h
    ·rename_i hk
     cases h
     rw [ST.fill, <- qFz ha, <- qFA hb, <- qFB hc, <- hk.1, <- hk.2]
    ·cases h
   ·cases h
  ·cases h
 ·cases h
def orC (f : FuncId) (A : List TS) (u : VA A -> (RES -> Prop) -> Prop) (d : CallF) : CallF := fun g a K =>
 if g = f then (match qNk A a with
  | some v => u v K
  | none => d g a K) else d g a K
def noC : CallF := fun _ _ _ => False
def orL (k : Nat) (T : ST) (u : T.V -> (X -> St -> Prop) -> Prop) (d : kW) : kW := fun j st K =>
 if j = k then (match T.fit st with
  | some v => u v K
  | none => d j st K) else d j st K
def noL : kW := fun _ _ _ => False
def qP1 (T : ST) (u : T.V -> Prop) : St -> Prop := fun st => match T.fit st with
 | some v => u v
 | none => False
section
variable {C : Ctx} {X0 : CallF} {n : Nat}
theorem qNG : ∀ g a K, noC g a K -> callM C X0 n g a K := fun _ _ _ h => h.elim
theorem qNF {f : FuncId} : ∀ k st K, noL k st K -> yP C X0 n f k st K := fun _ _ _ h => h.elim
theorem qND {f : FuncId} {A : List TS} {u : VA A -> (RES -> Prop) -> Prop} {d : CallF} (h : ∀ v K, u v K -> callM C X0 n f (qAr A v) K) (hd : ∀ g a K, d g a K -> callM C X0 n g a K) :
  ∀ g a K, orC f A u d g a K -> callM C X0 n g a K := by
 intro g a K hh
 unfold orC at hh
 split at hh
 ·rename_i hg
  subst hg
  split at hh
  ·rename_i v hv
   rw [qFC hv]; exact h v K hh
  ·exact hd _ _ _ hh
 ·exact hd _ _ _ hh
theorem qNC {f : FuncId} {k : Nat} {T : ST} {u : T.V -> (X -> St -> Prop) -> Prop} {d : kW} (h : ∀ v K, u v K -> yP C X0 n f k (T.fill v) K) (hd : ∀ j st K, d j st K -> yP C X0 n f j st K) :
  ∀ j st K, orL k T u d j st K -> yP C X0 n f j st K := by
 intro j st K hh
 unfold orL at hh
 split at hh
 ·rename_i hg
  subst hg
  split at hh
  ·rename_i v hv
   rw [ST.fit_fill hv]; exact h v K hh
  ·exact hd _ _ _ hh
 ·exact hd _ _ _ hh
theorem qMR {f : FuncId} {k : Nat} {T : ST} {u : T.V -> Prop} {K : X -> St -> Prop} (h : ∀ v, u v -> yP C X0 n f k (T.fill v) K) : ∀ s, qP1 T u s -> yP C X0 n f k s K := by
 intro s hs
 unfold qP1 at hs
 split at hs
 ·rename_i v hv
  rw [ST.fit_fill hv]; exact h v hs
 ·exact hs.elim
end
section
variable {C : Ctx} {X0 : CallF} (hX : CallF.Mono X0)
include hX
theorem qKf {f : FuncId} {fn : Func} {c : Code} (hf : C.fs f = some fn) (hb : fn.body = some c) {A : List TS} {u : Nat -> VA A -> (RES -> Prop) -> Prop} (h0 : ∀ v K, ¬ u 0 v K)
  {call : Nat -> CallF} {lp : Nat -> kW} (hc : ∀ n g a K, call n g a K -> callM C X0 n g a K) (hl : ∀ n k st K, lp n k st K -> yP C X0 n f k st K)
  (he : ∀ n v K, u (n + 1) v K = evC C (call n) fn.ntmps (C.fi f) (lp n) c (enter (C.fi f).modes (qAr A v)) (qCc C fn (C.fi f) (qAr A v) K)) :
  ∀ n v K, u n v K -> callM C X0 n f (qAr A v) K
 | 0, v, K, h => (h0 v K h).elim
 | n + 1, v, K, h => qM0 hX hf hb (hc n) (hl n) (he n v K) h
theorem qFm {f : FuncId} {k : Nat} {fn : Func} {c a : Code} {li : Li} (hf : C.fs f = some fn) (hb : fn.body = some c) (hk : k < 1000000) (ha : qT k c = some a) (hli : qL k (C.fi f).loops = some li)
  {T : ST} {u : Nat -> T.V -> (X -> St -> Prop) -> Prop} (h0 : ∀ v K, ¬ u 0 v K) {call : Nat -> CallF} {lp : Nat -> kW}
  (hc : ∀ n g a K, call n g a K -> callM C X0 n g a K) (hl : ∀ n k st K, lp n k st K -> yP C X0 n f k st K)
  (he : ∀ n v K, u (n + 1) v K = evC C (call n) fn.ntmps (C.fi f) (lp n) a (T.fill v) (qBR li (qP1 T fun v' => u n v' K) K)) :
  ∀ n v K, u n v K -> yP C X0 n f k (T.fill v) K
 | 0, v, K, h => (h0 v K h).elim
 | n + 1, v, K, h => qMI hX hf hb hk ha hli (hc n) (hl n) (qMR fun v' h' => qFm hf hb hk ha hli h0 hc hl he n v' K h') (he n v K) h
theorem qLk {f : FuncId} {k : Nat} {fn : Func} {c a : Code} {li : Li} (hf : C.fs f = some fn) (hb : fn.body = some c) (hk : 1000000 <= k) (ha : qY (k - 1000000) c = some a) (hli : qL k (C.fi f).loops = some li)
  {T : ST} {u : Nat -> T.V -> (X -> St -> Prop) -> Prop} (h0 : ∀ v K, ¬ u 0 v K) {call : Nat -> CallF} {lp : Nat -> kW}
  (hc : ∀ n g a K, call n g a K -> callM C X0 n g a K) (hl : ∀ n k st K, lp n k st K -> yP C X0 n f k st K)
  (he : ∀ n v K, u (n + 1) v K = evC C (call n) fn.ntmps (C.fi f) (lp n) a (T.fill v) (qLS li K)) :
  ∀ n v K, u n v K -> yP C X0 n f k (T.fill v) K
 | 0, v, K, h => (h0 v K h).elim
 | n + 1, v, K, h => qNS hX hf hb hk ha hli (hc n) (hl n) (he n v K) h
end
open Go.Sort
theorem qE2 : srt [] = [] := by simp [srt]
theorem qE3 (l : List Int) : (srt l).length = l.length := by simp [srt]
def qH8 (args : List SV) (K : RES -> Prop) : Prop := match args with
 | [.c (.row ⟨e, .int .i64, l, m + 1, none, []⟩)] => grd (decide ((l : List Int).length <= 1099511627776)) (K ⟨.tup [], [[.row ⟨e, .int .i64, srt l, m + 1, none, []⟩]]⟩)
 | _ => False
def qI4 (sid : FuncId) : CallF := fun f args K => f = sid /\ qH8 args K
theorem qAS {b : Bool} {P : Prop} (hb : grd b P) : b = true /\ P := by
 cases b with
 | true => exact ⟨rfl, hb⟩
 | false => exact hb.elim
theorem qH7 (sid : FuncId) : CallF.Mono (qI4 sid) := fun f a K K' hK h => by
 refine ⟨h.1, ?_⟩
 have h2 := h.2
 unfold qH8 at h2 ⊢
 split at h2
 ·exact yE (fun hh => hK _ hh) h2
 ·exact h2.elim
structure qMg (P : Program) (sid : FuncId) : Prop where
 some : ∀ (blk off cap : Nat) (zs : List Int) (w : World), Holds (Value.int .i64) w blk off zs.toArray -> blk < w.heap.size -> zs.length < 4611686018427387904 ->
  Calls P sid #[.slice (some ⟨blk, off, none⟩) zs.length cap] w fun e w' => e = .returned (.tuple #[]) /\ ∃ n os, w' = grow (putRow (Value.int .i64) (Sort.ahead w n) blk off (zs.mergeSort fun x y => decide (x <= y)).toArray) os
 none : ∀ (p : Option Addr) (cap : Nat) (w : World), Calls P sid #[.slice p 0 cap] w fun e w' => e = .returned (.tuple #[]) /\ w' = w
theorem qE4 {l : List Int} {j : Nat} (h : j < l.length) : l.toArray[j]! = l[j] := by
 rw [getElem!_pos _ j (by simpa using h)]; simp
theorem qKP {P : Program} {C : Ctx} {sid : FuncId} (hS : qMg P sid) (hmod : (C.fi sid).modes = [1]) {fn : Func} (hP : P.funcs[sid]? = Option.some fn) (hn : (fn.name == "runtime.NumGoroutine") = false) (hb : fn.body.isSome = true) : wB P C (qI4 sid) := by
 rintro f args K ⟨rfl, h⟩ hsmall vs w F B htab hs hF hB o a next Q hnext
 unfold qH8 at h
 split at h
 rotate_left
 ·exact h.elim
 rename_i e l m
 obtain ⟨hsmall', h⟩ := qAS h
 have hbig : (l : List Int).length <= 1099511627776 := of_decide_eq_true hsmall'
 obtain ⟨v, rest, rfl⟩ : ∃ v rest, vs = v :: rest := by
  cases vs with
  | nil => exact hs.elim
  | cons v rest => exact ⟨v, rest, rfl⟩
 obtain ⟨B1, B2, hd1, hd2, hv, hrest⟩ := hs
 obtain rfl : rest = [] := by
  cases rest with
  | nil => rfl
  | cons _ _ => exact hrest.elim
 have hrun : (callFunc f [v].toArray).run P w = .ok (.enter f [v].toArray) w := by
  unfold callFunc
  obtain ⟨c, hc⟩ := Option.isSome_iff_exists.1 hb
  simp only [Sem.run_bind, program, Sem.run, Result.andThen_ok, hP, hn, Bool.false_eq_true, if_false, hc, Option.isNone_some]
  rfl
 rw [hrun, Oper.upon_enter]
 obtain ⟨_, hO, hlies⟩ := hv
 replace hO := zJ.whole rfl hO
 rw [qJ] at hO
 obtain ⟨v', e1, a', c, hv', hO⟩ := hO
 obtain rfl : v = v' := by simpa using e1
 have hmv : [v].toArray = #[v] := rfl
 subst hv'
 have lent : jZ (C.fi f).modes [Value.slice a' l.length c] = [[Value.slice a' l.length c]] := by rw [hmod]; rfl
 rcases hO with ⟨hl, rfl⟩ | ⟨b, arr, fr, rfl, hb1, hfr, hsz, hlc, hBb, Bs, g1, g2, g3⟩
 ·have hl' : (l : List Int) = [] := hl
  subst hl'
  refine (hS.none a' 0 w).mono fun e' w' ⟨he, hw⟩ => ?_
  subst he; subst hw
  refine hnext _ _ _ h ⟨Nat.le_refl _, zD.refl _, fun _ _ _ => rfl, F, fun _ => False, B1, fun y hy => hy, fun y hy => ⟨hF y hy, .inl hy⟩, fun y hy => ?_, fun y hy => hy.elim, ⟨#[], rfl, trivial⟩, ?_⟩
  ·rcases hy with hy | hy
   ·exact hy.elim
   ·exact ⟨(hB y (hd1 y hy).1).1, (hB y (hd1 y hy).1).2, .inl (hd1 y hy).1⟩
  ·rw [lent]
   refine Sep.one (Sep.one ?_)
   refine ⟨.inl rfl, zJ.mk rfl ?_, fun h => absurd qE2 h⟩
   rw [qJ]
   refine ⟨_, rfl, a', 0, ?_, .inl ⟨qE2, rfl⟩⟩
   show Value.slice a' 0 0 = Value.slice a' (srt []).length 0
   rw [qE3]; rfl
 ·have hlt : b < w.heap.size := by
   rcases Nat.lt_or_ge b w.heap.size with h' | h'
   ·exact h'
   ·rw [Array.getElem?_eq_none h'] at hb1; cases hb1
  have hsz1 : c <= arr.size := by
   have e1 : c * 1 <= arr.size := hsz
   omega
  have hlc' : (l : List Int).length <= c := hlc
  have hH : Holds (Value.int .i64) w b 0 (l : List Int).toArray := fun j hj => by
   have hj' : j < (l : List Int).length := by simpa using hj
   obtain ⟨vs, q1, q2⟩ := g3 j hj'
   rw [qJ] at q2
   subst q2
   have q3 := q1 0 (by simp)
   have ej : j * Ty.sz (.int .i64) + 0 = 0 + j := by show j * 1 + 0 = 0 + j; omega
   rw [ej] at q3
   rw [qE4 hj']
   refine ⟨q3, ?_⟩
   unfold World.frozen?
   rw [hb1]
   have := hfr.2 (0 + j) (by omega)
   simpa using this
  refine (hS.some b 0 c l w hH hlt (by omega)).mono fun e' w' ⟨he, n, os, hw⟩ => ?_
  subst he; subst hw
  have hsl := qE3 (l : List Int)
  have hset : (srt (l : List Int)).toArray.size = (l : List Int).toArray.size := by simp [hsl]
  have hP2 := holds_putRow (Value.int .i64) (Sort.ahead w n) b 0 (l : List Int).toArray (srt (l : List Int)).toArray hH hset
  have hsp : (putRow (Value.int .i64) (Sort.ahead w n) b 0 (srt (l : List Int)).toArray).heap.size = w.heap.size := by rw [size_putRow]; rfl
  have hP3 := holds_grow (Value.int .i64) _ os b 0 _ (by rw [hsp]; exact hlt) hP2
  have hheap : ∀ y, y < w.heap.size -> (grow (putRow (Value.int .i64) (Sort.ahead w n) b 0 (srt (l : List Int)).toArray) os).heap[y]? = (w.heap.modify b (onCells (putCells (Value.int .i64) 0 (srt (l : List Int)).toArray)))[y]? := fun y hy => by
   rw [heap_grow_old _ _ (by rw [hsp]; exact hy)]; rfl
  have hkeep : ∀ y, y < w.heap.size -> y ≠ b -> (grow (putRow (Value.int .i64) (Sort.ahead w n) b 0 (srt (l : List Int)).toArray) os).heap[y]? = w.heap[y]? := fun y hy hne => by
   rw [hheap y hy, Array.getElem?_modify, if_neg (fun e => hne e.symm)]
  have hbb : (grow (putRow (Value.int .i64) (Sort.ahead w n) b 0 (srt (l : List Int)).toArray) os).heap[b]? = some (.cells (putCells (Value.int .i64) 0 (srt (l : List Int)).toArray arr) e fr) := by
   rw [hheap b hlt, Array.getElem?_modify, if_pos rfl, hb1]; rfl
  have hgs : w.heap.size <= (grow (putRow (Value.int .i64) (Sort.ahead w n) b 0 (srt (l : List Int)).toArray) os).heap.size := by rw [size_grow, hsp]; omega
  refine hnext _ _ _ h ⟨hgs, ⟨rfl, rfl, rfl⟩, fun y hy hnB => hkeep y hy (fun e => hnB (e ▸ (hd1 _ hBb).1)), F, fun _ => False, B1, fun y hy => hy, fun y hy => ⟨Nat.lt_of_lt_of_le (hF y hy) hgs, .inl hy⟩, fun y hy => ?_, fun y hy => hy.elim, ⟨#[], rfl, trivial⟩, ?_⟩
  ·rcases hy with hy | hy
   ·exact hy.elim
   ·exact ⟨(hB y (hd1 y hy).1).1, Nat.lt_of_lt_of_le (hB y (hd1 y hy).1).2 hgs, .inl (hd1 y hy).1⟩
  ·rw [lent]
   refine Sep.one (Sep.one ?_)
   refine ⟨.inl rfl, zJ.mk rfl ?_, fun _ => ⟨b, _, _, rfl⟩⟩
   rw [qJ]
   refine ⟨_, rfl, some ⟨b, 0, none⟩, c, ?_, .inr ⟨b, _, fr, rfl, hbb, ?_, ?_, ?_, hBb, Bs, ?_, ?_, ?_⟩⟩
   ·show Value.slice _ (l : List Int).length c = Value.slice _ (srt (l : List Int)).length c
    rw [hsl]
   ·show qBq (putCells (Value.int .i64) 0 (srt (l : List Int)).toArray arr).size fr
    rw [show (putCells (Value.int .i64) 0 (srt (l : List Int)).toArray arr).size = arr.size from by simp [putCells]]; exact hfr
   ·rw [show (putCells (Value.int .i64) 0 (srt (l : List Int)).toArray arr).size = arr.size from by simp [putCells]]; exact hsz
   ·show (srt (l : List Int)).length <= c
    rw [hsl]; exact hlc'
   ·intro i x hi hx
    exact g1 i x (by have : i < (srt (l : List Int)).length := hi; rw [hsl] at this; exact this) hx
   ·intro i j x hi hj hx hx'
    exact g2 i j x (by have : i < (srt (l : List Int)).length := hi; rw [hsl] at this; exact this) (by have : j < (srt (l : List Int)).length := hj; rw [hsl] at this; exact this) hx hx'
   ·intro i hi
    have hi' : i < (srt (l : List Int)).length := hi
    have q := (hP3 i (by simpa using hi')).1
    rw [qE4 hi'] at q
    refine ⟨[.int .i64 (srt (l : List Int))[i]], ?_, by show qJ _ _ (.int .i64) _ _ _ _; rw [qJ]⟩
    intro j hj
    obtain rfl : j = 0 := by simpa using hj
    have ej : i * Ty.sz (.int .i64) + 0 = 0 + i := by show i * 1 + 0 = 0 + i; omega
    rw [ej]; exact q
theorem qNv {C : Ctx} {sid : FuncId} (hf : C.fs sid = none) {A : List TS} {u : Nat -> VA A -> (RES -> Prop) -> Prop} (h0 : ∀ v K, u 0 v K -> False) (h : ∀ n v K, u (n + 1) v K = qH8 (qAr A v) K) :
  ∀ n v K, u n v K -> callM C (qI4 sid) n sid (qAr A v) K
 | 0, v, K, hu => (h0 v K hu).elim
 | n + 1, v, K, hu => by
  rw [h] at hu
  unfold callM
  show (match C.fs sid with | none => qI4 sid sid (qAr A v) K | some fn => _)
  rw [hf]
  exact ⟨rfl, hu⟩
def qMK (eid : TypeId) (args : List SV) (K : RES -> Prop) : Prop := match args with
 | [.c (.emp e (.int .i64)), .c (.int .i64 n)] => match Nat.beq e eid with
  | true => grd (decide (0 <= n) && decide (n <= 1099511627776)) (K ⟨.c (.row ⟨e, .int .i64, [], 99, none, []⟩), []⟩)
  | false => False
 | _ => False
def qNO (gid : FuncId) (eid : TypeId) : CallF := fun f args K => f = gid /\ qMK eid args K
theorem qNg (gid : FuncId) (eid : TypeId) : CallF.Mono (qNO gid eid) := fun f a K K' hK h => by
 refine ⟨h.1, ?_⟩
 have h2 := h.2
 unfold qMK at h2 ⊢
 split at h2
 ·split at h2
  ·exact yE (fun hh => hK _ hh) h2
  ·exact h2.elim
 ·exact h2.elim
structure qMj (P : Program) (gid : FuncId) (eid : TypeId) : Prop where
 room : ∀ (a : Option Addr) (w : World), Calls P gid #[.slice a 0 0, .int .i64 0] w fun e w' => e = .returned (.slice a 0 0) /\ w' = w
 grow : ∀ (a : Option Addr) (n : Nat) (w : World), 0 < n -> n <= 1099511627776 -> Calls P gid #[.slice a 0 0, .int .i64 (n : Int)] w fun e w' =>
  ∃ (c : Nat) (arr : Array Value), e = .returned (.slice (some ⟨w.heap.size, 0, none⟩) 0 c) /\ c <= arr.size /\ w' = w.drew.alloc (.cells arr eid)
theorem qPZ {P : Program} {C : Ctx} {gid : FuncId} {eid : TypeId} (hS : qMj P gid eid) (hmod : (C.fi gid).modes = [3]) {fn : Func} (hP : P.funcs[gid]? = Option.some fn) (hn : (fn.name == "runtime.NumGoroutine") = false) (hb : fn.body.isSome = true) : wB P C (qNO gid eid) := by
 rintro f args K ⟨rfl, h⟩ hsmall vs w F B htab hs hF hB o a next Q hnext
 unfold qMK at h
 split at h
 rotate_left
 ·exact h.elim
 rename_i e n
 split at h
 rotate_left
 ·exact h.elim
 rename_i hbe
 obtain rfl : e = eid := Nat.eq_of_beq_eq_true hbe
 obtain ⟨hg, hk⟩ := qAS h
 rw [Bool.and_eq_true, decide_eq_true_eq, decide_eq_true_eq] at hg
 obtain ⟨v, u, rfl⟩ : ∃ v u, vs = [v, u] := by
  match vs, hs with
  | [v, u], _ => exact ⟨v, u, rfl⟩
  | [], hs => exact hs.elim
  | [v], hs => obtain ⟨_, _, _, _, _, h⟩ := hs; exact h.elim
  | v :: u :: x :: r, hs => obtain ⟨_, _, _, _, _, _, _, _, _, _, h⟩ := hs; exact h.elim
 obtain ⟨B1, B2, hd1, hd2, hv, B3, B4, hd3, hd4, hu, _⟩ := hs
 obtain ⟨a', rfl⟩ : ∃ a', v = .slice a' 0 0 := hv.2
 have hu' : u = .int .i64 n := hu.2
 subst hu'
 have hrun : (callFunc f [Value.slice a' 0 0, Value.int .i64 n].toArray).run P w = .ok (.enter f [Value.slice a' 0 0, Value.int .i64 n].toArray) w := by
  unfold callFunc
  obtain ⟨c, hc⟩ := Option.isSome_iff_exists.1 hb
  simp only [Sem.run_bind, program, Sem.run, Result.andThen_ok, hP, hn, Bool.false_eq_true, if_false, hc, Option.isNone_some]
  rfl
 rw [hrun, Oper.upon_enter]
 have lent : jZ (C.fi f).modes [Value.slice a' 0 0, Value.int .i64 n] = [] := by rw [hmod]; rfl
 by_cases h0 : n = 0
 ·subst h0
  refine (hS.room a' w).mono fun e' w' ⟨he, hw⟩ => ?_
  subst he; subst hw
  refine hnext _ _ _ hk ⟨Nat.le_refl _, zD.refl _, fun _ _ _ => rfl, F, fun _ => False, fun _ => False, fun y hy => hy, fun y hy => ⟨hF y hy, .inl hy⟩, fun y hy => hy.elim (fun h => h.elim) (fun h => h.elim), fun y hy => hy.elim, ?_, ?_⟩
  ·refine ⟨.inl rfl, zJ.mk rfl ?_, fun h => absurd rfl h⟩
   rw [qJ]
   exact ⟨_, rfl, a', 0, rfl, .inl ⟨rfl, rfl⟩⟩
  ·rw [lent]; trivial
 ·obtain ⟨k, rfl⟩ : ∃ k : Nat, n = k := ⟨n.toNat, by omega⟩
  refine (hS.grow a' k w (by omega) (by omega)).mono fun e' w' ⟨c, arr, he, hc, hw⟩ => ?_
  subst he; subst hw
  have hh : (w.drew.alloc (.cells arr e)).heap = w.heap.push (.cells arr e) := rfl
  have hsz : (w.drew.alloc (.cells arr e)).heap.size = w.heap.size + 1 := by rw [hh, Array.size_push]
  have hold : ∀ y, y < w.heap.size -> (w.drew.alloc (.cells arr e)).heap[y]? = w.heap[y]? := fun y hy => by
   rw [hh, Array.getElem?_push, if_neg (by omega)]
  have hnew : (w.drew.alloc (.cells arr e)).heap[w.heap.size]? = some (.cells arr e) := by rw [hh, Array.getElem?_push, if_pos rfl]
  refine hnext _ _ _ hk ⟨by omega, ⟨rfl, rfl, rfl⟩, fun y hy _ => hold y hy, F, fun y => y = w.heap.size, fun _ => False, fun y hy => hy, fun y hy => ⟨by have := hF y hy; omega, .inl hy⟩, fun y hy => ?_, fun y _ hy => hy, ?_, ?_⟩
  ·rcases hy with rfl | hy
   ·exact ⟨fun hf => by have := hF _ hf; omega, by omega, .inr (Nat.le_refl _)⟩
   ·exact hy.elim
  ·refine ⟨.inl rfl, zJ.mk rfl ?_, fun h => absurd rfl h⟩
   rw [qJ]
   refine ⟨_, rfl, some ⟨w.heap.size, 0, none⟩, c, rfl, .inr ⟨w.heap.size, arr, (0, 0), rfl, hnew, ⟨Nat.le_refl _, fun o _ hh => by omega⟩, ?_, Nat.zero_le _, rfl, fun _ _ => False, fun i x hi => absurd hi (by simp), fun i j x hi => absurd hi (by simp), fun i hi => absurd hi (by simp)⟩⟩
   show c * 1 <= arr.size
   omega
  ·rw [lent]; trivial
theorem qDV {z : Array Value} (n : Nat) (h : z.size = 1) : (Builtin.zeroCells z n).size = n := by simp [Builtin.zeroCells, h]
def qJo (i : Option TypeInfo) : Bool := match i with
 | some i => match i.zero with
  | some z => Nat.beq i.size 1 && Nat.ble i.bytes 64 && Nat.beq z.cells.size 1
  | none => false
 | none => false
theorem qNP {P : Program} {ρ : Go.Shelf.Ren} (L : Go.Proofs.Lays8.n4 P ρ) {gid : FuncId} {eid : TypeId} (hg : ρ.f 4 = gid) (he : ρ.t 25 = eid) (hone : qJo (P.info? eid) = true) : qMj P gid eid := by
 obtain ⟨i0, z, hi, hz, hs, hb, hzc⟩ : ∃ i0 z, P.info? eid = some i0 /\ i0.zero = some z /\ i0.size = 1 /\ i0.bytes <= 64 /\ z.cells.size = 1 := by
  unfold qJo at hone
  split at hone
  ·rename_i i0 hi
   split at hone
   ·rename_i z hz
    rw [Bool.and_eq_true, Bool.and_eq_true] at hone
    exact ⟨i0, z, hi, hz, Nat.eq_of_beq_eq_true hone.1.1, Nat.le_of_ble_eq_true hone.1.2, Nat.eq_of_beq_eq_true hone.2⟩
   ·cases hone
  ·cases hone
 subst hg; subst he
 refine ⟨fun a w => Go.Proofs.Any8.slices_Grow_room L a 0 0 0 w (Nat.le_refl _) (by omega) (by omega) (by omega), fun a n w h0 h1 => ?_⟩
 refine (Go.Proofs.Any8.slices_Grow_grow L i0 z hi hz (by omega) a 0 0 n [] w (Nat.le_refl _) (by omega) ?_ (by omega) (by simp) (fun _ => rfl) (fun _ _ j v hv => by simp at hv)).mono fun e w' ⟨he, hw⟩ => ⟨_, _, he, ?_, hw⟩
 ·have : (0 + n) * i0.bytes <= (0 + n) * 64 := Nat.mul_le_mul_left _ hb
  omega
 ·simp only [Array.size_append, qDV _ hzc, List.size_toArray, List.length_nil]
  omega
def qM1 (A B : CallF) : CallF := fun f a K => A f a K \/ B f a K
theorem qIz {A B : CallF} (hA : CallF.Mono A) (hB : CallF.Mono B) : CallF.Mono (qM1 A B) := fun f a K K' hK h => h.imp (hA f a K K' hK) (hB f a K K' hK)
theorem qLo {P : Program} {C : Ctx} {A B : CallF} (hA : wB P C A) (hB : wB P C B) : wB P C (qM1 A B) := fun f args K h => h.elim (hA f args K) (hB f args K)
theorem qHg {C : Ctx} {X0 : CallF} {g : FuncId} (hf : C.fs g = none) {B : List SV -> (RES -> Prop) -> Prop} (hB : ∀ args K, B args K -> X0 g args K) {A : List TS} {u : Nat -> VA A -> (RES -> Prop) -> Prop} (h0 : ∀ v K, u 0 v K -> False) (h : ∀ n v K, u (n + 1) v K = B (qAr A v) K) :
  ∀ n v K, u n v K -> callM C X0 n g (qAr A v) K
 | 0, v, K, hu => (h0 v K hu).elim
 | n + 1, v, K, hu => by
  rw [h] at hu
  unfold callM
  show (match C.fs g with | none => X0 g (qAr A v) K | some fn => _)
  rw [hf]
  exact hB _ _ hu
open Go.RowKit
def qLM (args : List SV) (K : RES -> Prop) : Prop := match args with
 | [.c (.int .i64 n), .c (.int .i64 b)] => grd (decide (b = 10) && (decide (-9223372036854775808 <= n) && decide (n <= 9223372036854775807))) (K ⟨.c (.str (Go.Lib.itoa n)), []⟩)
 | _ => False
def qJI (args : List SV) (K : RES -> Prop) : Prop := match args with
 | [.c (.dat _ .str l), .c (.str sep)] => grd (decide ((l : List (List UInt8)).length <= 1099511627776) && decide ((Go.Lib.join l sep).length <= 1099511627776)) (K ⟨.c (.str (Go.Lib.join l sep)), []⟩)
 | _ => False
def qNL (args : List SV) (K : RES -> Prop) : Prop := match args with
 | [.c (.str s), .c (.int .u8 c)] => K ⟨.c (.int .i64 (Go.Lib.indexByte s c.toNat.toUInt8)), []⟩
 | _ => False
def qNd (B : List SV -> (RES -> Prop) -> Prop) (g : FuncId) : CallF := fun f args K => f = g /\ B args K
theorem qJn {B : List SV -> (RES -> Prop) -> Prop} (hB : ∀ a (K K' : RES -> Prop), (∀ r, K r -> K' r) -> B a K -> B a K') (g : FuncId) : CallF.Mono (qNd B g) := fun f a K K' hK h => ⟨h.1, hB a K K' hK h.2⟩
theorem qJQ : ∀ a (K K' : RES -> Prop), (∀ r, K r -> K' r) -> qLM a K -> qLM a K' := fun a K K' hK h => by
 unfold qLM at h ⊢
 split at h
 ·exact yE (fun hh => hK _ hh) h
 ·exact h.elim
theorem qNe : ∀ a (K K' : RES -> Prop), (∀ r, K r -> K' r) -> qJI a K -> qJI a K' := fun a K K' hK h => by
 unfold qJI at h ⊢
 split at h
 ·exact yE (fun hh => hK _ hh) h
 ·exact h.elim
theorem qNK : ∀ a (K K' : RES -> Prop), (∀ r, K r -> K' r) -> qNL a K -> qNL a K' := fun a K K' hK h => by
 unfold qNL at h ⊢
 split at h
 ·exact hK _ h
 ·exact h.elim
theorem qGi {P : Program} {C : Ctx} {B : List SV -> (RES -> Prop) -> Prop} {g : FuncId} (hmod : (C.fi g).modes = []) {fn : Func} (hP : P.funcs[g]? = Option.some fn) (hn : (fn.name == "runtime.NumGoroutine") = false) (hb : fn.body.isSome = true)
  (h : ∀ args K, B args K -> ∀ (vs : List Value) (w : World) (F D : Nat -> Prop), TabOK F w -> Sep (BV F w) args D vs -> (∀ y, F y -> y < w.heap.size) ->
   ∃ c v, K ⟨.c c, []⟩ /\ c.plain = true /\ (∀ F' w', CVR (bare F') w' c v) /\ Calls P g vs.toArray w fun e w' => e = .returned v /\ Below w.heap.size w w') : wB P C (qNd B g) := by
 rintro f args K ⟨rfl, h1⟩ hsmall vs w F D htab hs hF hD o a next Q hnext
 obtain ⟨c, v, hk, hp, hc, hcall⟩ := h args K h1 vs w F D htab hs hF
 have hrun : (callFunc f vs.toArray).run P w = .ok (.enter f vs.toArray) w := by
  unfold callFunc
  obtain ⟨c, hc⟩ := Option.isSome_iff_exists.1 hb
  simp only [Sem.run_bind, program, Sem.run, Result.andThen_ok, hP, hn, Bool.false_eq_true, if_false, hc, Option.isNone_some]
  rfl
 rw [hrun, Oper.upon_enter]
 have lent : jZ (C.fi f).modes vs = [] := by
  rw [hmod]
  have : ∀ l : List Value, jZ [] l = [] := by
   intro l
   induction l with
   | nil => rfl
   | cons x l ih => exact ih
  exact this vs
 refine hcall.mono fun e' w' ⟨he, hbl⟩ => ?_
 subst he
 refine hnext _ _ _ hk ⟨hbl.size, ⟨hbl.os, hbl.tape, hbl.output⟩, fun y hy _ => hbl.block y hy, F, fun _ => False, fun _ => False, fun y hy => hy, fun y hy => ⟨Nat.lt_of_lt_of_le (hF y hy) hbl.size, .inl hy⟩, fun y hy => hy.elim (fun h => h.elim) (fun h => h.elim), fun y hy => hy.elim, ?_, ?_⟩
 ·show BC F w' c (fun _ => False) v
  refine kD ?_
  cases c <;> first | exact ⟨hp, hc _ _⟩ | cases hp
 ·rw [lent]; trivial
structure qPS (P : Program) (g : FuncId) : Prop where
 fmt : ∀ (n : Int) (w : World), -9223372036854775808 <= n -> n <= 9223372036854775807 -> Go.Lib.TabIs P w "internal/strconv.uint64pow10" .u64 Go.Lib.pow10Tab ->
  Calls P g #[.int .i64 n, .int .i64 10] w fun e w' => e = .returned (.string ⟨(Go.Lib.itoa n).toArray⟩) /\ Below w.heap.size w w'
structure qPR (P : Program) (g : FuncId) : Prop where
 none : ∀ (a : Option Addr) (c : Nat) (sep : ByteArray) (w : World), Calls P g #[.slice a 0 c, .string sep] w fun e w' => e = .returned (.string ⟨#[]⟩) /\ Below w.heap.size w w'
 some : ∀ (bk o c : Nat) (xs : List ByteArray) (sep : ByteArray) (w : World), (∀ (j : Nat) x, xs[j]? = some x -> w.cell? ⟨bk, o + j, .none⟩ = some (.string x)) -> bk < w.heap.size -> xs.length <= 140737488355328 -> xs.length <= c ->
  (Go.Lib.join (xs.map (·.data.toList)) sep.data.toList).length <= 140737488355328 ->
  Calls P g #[.slice (some ⟨bk, o, .none⟩) xs.length c, .string sep] w fun e w' => e = .returned (.string ⟨(Go.Lib.join (xs.map (·.data.toList)) sep.data.toList).toArray⟩) /\ Below w.heap.size w w'
structure qQr (P : Program) (g : FuncId) : Prop where
 ix : ∀ (s : ByteArray) (c : Int) (w : World), Calls P g #[.string s, .int .u8 c] w fun e w' => e = .returned (.int .i64 (Go.Lib.indexByte s.data.toList c.toNat.toUInt8)) /\ Below w.heap.size w w'
theorem qD0 {F D : Nat -> Prop} {w : World} {x y : CV} {vs : List Value} (hs : Sep (BV F w) [.c x, .c y] D vs) : ∃ u v D1 D2, vs = [u, v] /\ BC F w x D1 u /\ BC F w y D2 v := by
 match vs, hs with
 | [v, u], hs => obtain ⟨B1, B2, _, _, hv, B3, B4, _, _, hu, _⟩ := hs; exact ⟨v, u, B1, B3, rfl, hv, hu⟩
 | [], hs => exact hs.elim
 | [v], hs => obtain ⟨_, _, _, _, _, h⟩ := hs; exact h.elim
 | v :: u :: x :: r, hs => obtain ⟨_, _, _, _, _, _, _, _, _, _, h⟩ := hs; exact h.elim
theorem qMQ {P : Program} {C : Ctx} {g : FuncId} (hS : qPS P g) (ht : tabG = P.globalNamed "internal/strconv.uint64pow10") (ht0 : tabG.isSome = true) (hmod : (C.fi g).modes = []) {fn : Func} (hP : P.funcs[g]? = Option.some fn) (hn : (fn.name == "runtime.NumGoroutine") = false) (hb : fn.body.isSome = true) :
  wB P C (qNd qLM g) := by
 refine qGi hmod hP hn hb fun args K h vs w F D htab hs hF => ?_
 unfold qLM at h
 split at h
 rotate_left
 ·exact h.elim
 rename_i n b
 obtain ⟨hg, hk⟩ := qAS h
 rw [Bool.and_eq_true, Bool.and_eq_true, decide_eq_true_eq, decide_eq_true_eq, decide_eq_true_eq] at hg
 obtain ⟨u, v, D1, D2, rfl, hu, hv⟩ := qD0 hs
 have hu' : u = .int .i64 n := hu.2
 have hv' : v = .int .i64 b := hv.2
 subst hu'; subst hv'
 obtain ⟨rfl, h1, h2⟩ := hg
 refine ⟨_, _, hk, rfl, fun _ _ => rfl, hS.fmt n w h1 h2 ?_⟩
 obtain ⟨t, ht1⟩ := Option.isSome_iff_exists.1 ht0
 obtain ⟨_, e, fr, hw⟩ := htab t ht1
 unfold Go.Lib.TabIs World.var?
 rw [<- ht, ht1]
 show (match w.heap[t]? with | .some (.cells cs _ _) => some cs | _ => none) = _
 rw [hw]; rfl
theorem qPX {P : Program} {C : Ctx} {g : FuncId} (hS : qPR P g) (hmod : (C.fi g).modes = []) {fn : Func} (hP : P.funcs[g]? = Option.some fn) (hn : (fn.name == "runtime.NumGoroutine") = false) (hb : fn.body.isSome = true) :
  wB P C (qNd qJI g) := by
 refine qGi hmod hP hn hb fun args K h vs w F D htab hs hF => ?_
 unfold qJI at h
 split at h
 rotate_left
 ·exact h.elim
 rename_i e l sep
 obtain ⟨hg, hk⟩ := qAS h
 rw [Bool.and_eq_true, decide_eq_true_eq, decide_eq_true_eq] at hg
 obtain ⟨u, v, D1, D2, rfl, hu, hv⟩ := qD0 hs
 have hv' : v = .string ⟨⟨sep⟩⟩ := hv.2
 subst hv'
 obtain ⟨a, c, rfl, hc, hcell⟩ : qDd F w .str l u := hu.2
 refine ⟨_, .string ⟨⟨Go.Lib.join l sep⟩⟩, hk, rfl, fun _ _ => rfl, ?_⟩
 by_cases hl : (l : List (List UInt8)) = []
 ·have hl0 : (l : List (List UInt8)).length = 0 := by rw [hl]; rfl
  have ej : Go.Lib.join l sep = [] := by rw [hl]; rfl
  have := hS.none a c ⟨⟨sep⟩⟩ w
  rw [ej]
  show Calls P g #[Value.slice a (l : List (List UInt8)).length c, .string ⟨⟨sep⟩⟩] w _
  rw [hl0]; exact this
 ·have hpos : 0 < (l : List (List UInt8)).length := List.length_pos_iff.2 hl
  obtain ⟨b, off, _, rfl, hFb, _, _⟩ := hcell 0 hpos
  have ex : ((l : List (List UInt8)).map fun s => (⟨⟨s⟩⟩ : ByteArray)).map (·.data.toList) = l := by
   rw [List.map_map]
   exact List.map_id _
  have := hS.some b off c ((l : List (List UInt8)).map fun s => ⟨⟨s⟩⟩) ⟨⟨sep⟩⟩ w (fun j x hx => by
   rw [List.getElem?_map, Option.map_eq_some_iff] at hx
   obtain ⟨s, hs1, rfl⟩ := hx
   obtain ⟨hj, hs2⟩ := List.getElem?_eq_some_iff.1 hs1
   obtain ⟨b', off', cs, e1, _, g1, g2⟩ := hcell j hj
   simp only [Option.some.injEq, Addr.mk.injEq, and_true] at e1
   obtain ⟨rfl, rfl⟩ := e1
   have g3 : cs = [.string ⟨⟨l[j]⟩⟩] := g2
   subst g3
   have := g1 0 (by simp)
   rw [show off + j * Ty.sz .str + 0 = off + j from by show off + j * 1 + 0 = off + j; omega] at this
   rw [this]
   simp only [List.getElem_cons_zero]
   rw [hs2]) (hF b hFb) (by rw [List.length_map]; omega) (by rw [List.length_map]; exact hc) (by rw [ex]; have := hg.2; show (Go.Lib.join l sep).length <= _; omega)
  rw [ex, List.length_map] at this
  exact this
theorem qP9 {P : Program} {C : Ctx} {g : FuncId} (hS : qQr P g) (hmod : (C.fi g).modes = []) {fn : Func} (hP : P.funcs[g]? = Option.some fn) (hn : (fn.name == "runtime.NumGoroutine") = false) (hb : fn.body.isSome = true) :
  wB P C (qNd qNL g) := by
 refine qGi hmod hP hn hb fun args K h vs w F D htab hs hF => ?_
 unfold qNL at h
 split at h
 rotate_left
 ·exact h.elim
 rename_i s c
 obtain ⟨u, v, D1, D2, rfl, hu, hv⟩ := qD0 hs
 have hu' : u = .string ⟨⟨s⟩⟩ := hu.2
 have hv' : v = .int .u8 c := hv.2
 subst hu'; subst hv'
 exact ⟨_, _, h, rfl, fun _ _ => rfl, hS.ix ⟨⟨s⟩⟩ c w⟩
end Go.Vsi
end
