/- A machine on plain data for the code of the program, and what it means in memory. No statement is proved here. -/
import Derived.Test.YtligefedbeibiaaM3
import Derived.Lib.LaidTab
import Derived.Below

section
set_option linter.unusedVariables false
namespace Go.Vsi
open Go.RowKit
def fmtB (args : List SV) (K : RES -> Prop) : Prop := match args with
 | [.c (.int .i64 n), .c (.int .i64 b)] => grd (decide (b = 10) && (decide (-9223372036854775808 <= n) && decide (n <= 9223372036854775807))) (K ⟨.c (.str (Go.Lib.itoa n)), []⟩)
 | _ => False
def joinB (args : List SV) (K : RES -> Prop) : Prop := match args with
 | [.c (.dat _ .str l), .c (.str sep)] => grd (decide ((l : List (List UInt8)).length <= 1099511627776) && decide ((Go.Lib.join l sep).length <= 1099511627776)) (K ⟨.c (.str (Go.Lib.join l sep)), []⟩)
 | _ => False
def ixbB (args : List SV) (K : RES -> Prop) : Prop := match args with
 | [.c (.str s), .c (.int .u8 c)] => K ⟨.c (.int .i64 (Go.Lib.indexByte s c.toNat.toUInt8)), []⟩
 | _ => False
def oneX (B : List SV -> (RES -> Prop) -> Prop) (g : FuncId) : CallF := fun f args K => f = g /\ B args K
theorem oneX_mono {B : List SV -> (RES -> Prop) -> Prop} (hB : ∀ a (K K' : RES -> Prop), (∀ r, K r -> K' r) -> B a K -> B a K') (g : FuncId) : CallF.Mono (oneX B g) := fun f a K K' hK h => ⟨h.1, hB a K K' hK h.2⟩
theorem fmtB_mono : ∀ a (K K' : RES -> Prop), (∀ r, K r -> K' r) -> fmtB a K -> fmtB a K' := fun a K K' hK h => by
 unfold fmtB at h ⊢
 split at h
 ·exact grd_mono (fun hh => hK _ hh) h
 ·exact h.elim
theorem joinB_mono : ∀ a (K K' : RES -> Prop), (∀ r, K r -> K' r) -> joinB a K -> joinB a K' := fun a K K' hK h => by
 unfold joinB at h ⊢
 split at h
 ·exact grd_mono (fun hh => hK _ hh) h
 ·exact h.elim
theorem ixbB_mono : ∀ a (K K' : RES -> Prop), (∀ r, K r -> K' r) -> ixbB a K -> ixbB a K' := fun a K K' hK h => by
 unfold ixbB at h ⊢
 split at h
 ·exact hK _ h
 ·exact h.elim
theorem oneX_ok {P : Program} {C : Ctx} {B : List SV -> (RES -> Prop) -> Prop} {g : FuncId} (hmod : (C.fi g).modes = []) {fn : Func} (hP : P.funcs[g]? = Option.some fn) (hn : (fn.name == "runtime.NumGoroutine") = false) (hb : fn.body.isSome = true)
  (h : ∀ args K, B args K -> ∀ (vs : List Value) (w : World) (F D : Nat -> Prop), TabOK F w -> Sep (BV F w) args D vs -> (∀ y, F y -> y < w.heap.size) ->
   ∃ c v, K ⟨.c c, []⟩ /\ c.plain = true /\ (∀ F' w', CVR (bare F') w' c v) /\ Calls P g vs.toArray w fun e w' => e = .returned v /\ Below w.heap.size w w') : CallOK P C (oneX B g) := by
 rintro f args K ⟨rfl, h1⟩ hsmall vs w F D htab hs hF hD o a next Q hnext
 obtain ⟨c, v, hk, hp, hc, hcall⟩ := h args K h1 vs w F D htab hs hF
 have hrun : (callFunc f vs.toArray).run P w = .ok (.enter f vs.toArray) w := by
  unfold callFunc
  obtain ⟨c, hc⟩ := Option.isSome_iff_exists.1 hb
  simp only [Sem.run_bind, program, Sem.run, Result.andThen_ok, hP, hn, Bool.false_eq_true, if_false, hc, Option.isNone_some]
  rfl
 rw [hrun, Oper.upon_enter]
 have lent : lentVals (C.fi f).modes vs = [] := by
  rw [hmod]
  have : ∀ l : List Value, lentVals [] l = [] := by
   intro l
   induction l with
   | nil => rfl
   | cons x l ih => exact ih
  exact this vs
 refine hcall.mono fun e' w' ⟨he, hbl⟩ => ?_
 subst he
 refine hnext _ _ _ hk ⟨hbl.size, ⟨hbl.os, hbl.tape, hbl.output⟩, fun y hy _ => hbl.block y hy, F, fun _ => False, fun _ => False, fun y hy => hy, fun y hy => ⟨Nat.lt_of_lt_of_le (hF y hy) hbl.size, .inl hy⟩, fun y hy => hy.elim (fun h => h.elim) (fun h => h.elim), fun y hy => hy.elim, ?_, ?_⟩
 ·show BC F w' c (fun _ => False) v
  refine BC_of0 ?_
  cases c <;> first | exact ⟨hp, hc _ _⟩ | cases hp
 ·rw [lent]; trivial
structure FmtOK (P : Program) (g : FuncId) : Prop where
 fmt : ∀ (n : Int) (w : World), -9223372036854775808 <= n -> n <= 9223372036854775807 -> Go.Lib.TabIs P w "internal/strconv.uint64pow10" .u64 Go.Lib.pow10Tab ->
  Calls P g #[.int .i64 n, .int .i64 10] w fun e w' => e = .returned (.string ⟨(Go.Lib.itoa n).toArray⟩) /\ Below w.heap.size w w'
structure JoinOK (P : Program) (g : FuncId) : Prop where
 none : ∀ (a : Option Addr) (c : Nat) (sep : ByteArray) (w : World), Calls P g #[.slice a 0 c, .string sep] w fun e w' => e = .returned (.string ⟨#[]⟩) /\ Below w.heap.size w w'
 some : ∀ (bk o c : Nat) (xs : List ByteArray) (sep : ByteArray) (w : World), (∀ (j : Nat) x, xs[j]? = some x -> w.cell? ⟨bk, o + j, .none⟩ = some (.string x)) -> bk < w.heap.size -> xs.length <= 140737488355328 -> xs.length <= c ->
  (Go.Lib.join (xs.map (·.data.toList)) sep.data.toList).length <= 140737488355328 ->
  Calls P g #[.slice (some ⟨bk, o, .none⟩) xs.length c, .string sep] w fun e w' => e = .returned (.string ⟨(Go.Lib.join (xs.map (·.data.toList)) sep.data.toList).toArray⟩) /\ Below w.heap.size w w'
structure IxbOK (P : Program) (g : FuncId) : Prop where
 ix : ∀ (s : ByteArray) (c : Int) (w : World), Calls P g #[.string s, .int .u8 c] w fun e w' => e = .returned (.int .i64 (Go.Lib.indexByte s.data.toList c.toNat.toUInt8)) /\ Below w.heap.size w w'
theorem two_args {F D : Nat -> Prop} {w : World} {x y : CV} {vs : List Value} (hs : Sep (BV F w) [.c x, .c y] D vs) : ∃ u v D1 D2, vs = [u, v] /\ BC F w x D1 u /\ BC F w y D2 v := by
 match vs, hs with
 | [v, u], hs => obtain ⟨B1, B2, _, _, hv, B3, B4, _, _, hu, _⟩ := hs; exact ⟨v, u, B1, B3, rfl, hv, hu⟩
 | [], hs => exact hs.elim
 | [v], hs => obtain ⟨_, _, _, _, _, h⟩ := hs; exact h.elim
 | v :: u :: x :: r, hs => obtain ⟨_, _, _, _, _, _, _, _, _, _, h⟩ := hs; exact h.elim
theorem fmtX_ok {P : Program} {C : Ctx} {g : FuncId} (hS : FmtOK P g) (ht : tabG = P.globalNamed "internal/strconv.uint64pow10") (ht0 : tabG.isSome = true) (hmod : (C.fi g).modes = []) {fn : Func} (hP : P.funcs[g]? = Option.some fn) (hn : (fn.name == "runtime.NumGoroutine") = false) (hb : fn.body.isSome = true) :
  CallOK P C (oneX fmtB g) := by
 refine oneX_ok hmod hP hn hb fun args K h vs w F D htab hs hF => ?_
 unfold fmtB at h
 split at h
 rotate_left
 ·exact h.elim
 rename_i n b
 obtain ⟨hg, hk⟩ := sortX_grd h
 rw [Bool.and_eq_true, Bool.and_eq_true, decide_eq_true_eq, decide_eq_true_eq, decide_eq_true_eq] at hg
 obtain ⟨u, v, D1, D2, rfl, hu, hv⟩ := two_args hs
 have hu' : u = .int .i64 n := hu.2
 have hv' : v = .int .i64 b := hv.2
 subst hu'; subst hv'
 obtain ⟨rfl, h1, h2⟩ := hg
 refine ⟨_, _, hk, rfl, fun _ _ => rfl, hS.fmt n w h1 h2 ?_⟩
 obtain ⟨t, ht1⟩ := Option.isSome_iff_exists.1 ht0
 obtain ⟨_, e, fr, hw⟩ := htab t ht1
 unfold Go.Lib.TabIs World.var?
 rw [<- ht, ht1]
 show (match w.heap[t]? with | .some (.cells cs _ _) => some cs | _ => none) = _
 rw [hw]; rfl
theorem joinX_ok {P : Program} {C : Ctx} {g : FuncId} (hS : JoinOK P g) (hmod : (C.fi g).modes = []) {fn : Func} (hP : P.funcs[g]? = Option.some fn) (hn : (fn.name == "runtime.NumGoroutine") = false) (hb : fn.body.isSome = true) :
  CallOK P C (oneX joinB g) := by
 refine oneX_ok hmod hP hn hb fun args K h vs w F D htab hs hF => ?_
 unfold joinB at h
 split at h
 rotate_left
 ·exact h.elim
 rename_i e l sep
 obtain ⟨hg, hk⟩ := sortX_grd h
 rw [Bool.and_eq_true, decide_eq_true_eq, decide_eq_true_eq] at hg
 obtain ⟨u, v, D1, D2, rfl, hu, hv⟩ := two_args hs
 have hv' : v = .string ⟨⟨sep⟩⟩ := hv.2
 subst hv'
 obtain ⟨a, c, rfl, hc, hcell⟩ : RdSl F w .str l u := hu.2
 refine ⟨_, .string ⟨⟨Go.Lib.join l sep⟩⟩, hk, rfl, fun _ _ => rfl, ?_⟩
 by_cases hl : (l : List (List UInt8)) = []
 ·have hl0 : (l : List (List UInt8)).length = 0 := by rw [hl]; rfl
  have ej : Go.Lib.join l sep = [] := by rw [hl]; rfl
  have := hS.none a c ⟨⟨sep⟩⟩ w
  rw [ej]
  show Calls P g #[Value.slice a (l : List (List UInt8)).length c, .string ⟨⟨sep⟩⟩] w _
  rw [hl0]; exact this
 ·have hpos : 0 < (l : List (List UInt8)).length := List.length_pos_iff.2 hl
  obtain ⟨b, off, _, rfl, hFb, _, _⟩ := hcell 0 hpos
  have ex : ((l : List (List UInt8)).map fun s => (⟨⟨s⟩⟩ : ByteArray)).map (·.data.toList) = l := by
   rw [List.map_map]
   exact List.map_id _
  have := hS.some b off c ((l : List (List UInt8)).map fun s => ⟨⟨s⟩⟩) ⟨⟨sep⟩⟩ w (fun j x hx => by
   rw [List.getElem?_map, Option.map_eq_some_iff] at hx
   obtain ⟨s, hs1, rfl⟩ := hx
   obtain ⟨hj, hs2⟩ := List.getElem?_eq_some_iff.1 hs1
   obtain ⟨b', off', cs, e1, _, g1, g2⟩ := hcell j hj
   simp only [Option.some.injEq, Addr.mk.injEq, and_true] at e1
   obtain ⟨rfl, rfl⟩ := e1
   have g3 : cs = [.string ⟨⟨l[j]⟩⟩] := g2
   subst g3
   have := g1 0 (by simp)
   rw [show off + j * Ty.sz .str + 0 = off + j from by show off + j * 1 + 0 = off + j; omega] at this
   rw [this]
   simp only [List.getElem_cons_zero]
   rw [hs2]) (hF b hFb) (by rw [List.length_map]; omega) (by rw [List.length_map]; exact hc) (by rw [ex]; have := hg.2; show (Go.Lib.join l sep).length <= _; omega)
  rw [ex, List.length_map] at this
  exact this
theorem ixbX_ok {P : Program} {C : Ctx} {g : FuncId} (hS : IxbOK P g) (hmod : (C.fi g).modes = []) {fn : Func} (hP : P.funcs[g]? = Option.some fn) (hn : (fn.name == "runtime.NumGoroutine") = false) (hb : fn.body.isSome = true) :
  CallOK P C (oneX ixbB g) := by
 refine oneX_ok hmod hP hn hb fun args K h vs w F D htab hs hF => ?_
 unfold ixbB at h
 split at h
 rotate_left
 ·exact h.elim
 rename_i s c
 obtain ⟨u, v, D1, D2, rfl, hu, hv⟩ := two_args hs
 have hu' : u = .string ⟨⟨s⟩⟩ := hu.2
 have hv' : v = .int .u8 c := hv.2
 subst hu'; subst hv'
 exact ⟨_, _, h, rfl, fun _ _ => rfl, hS.ix ⟨⟨s⟩⟩ c w⟩
end Go.Vsi
end
