/- The machine answers laws.FnExactReplace. No statement is proved here. -/
import Derived.Test.YtaeadfaldglniaaGreatDoorB2
import Derived.Test.YtaeadfaldglniaaGreatDoorT1
import Derived.Test.YtaeadfaldglniaaGreatDoorRows
import Derived.ProofKit
import Derived.SizedLaws
import Derived.Handed
import Derived.LaidLaws
import Derived.LaidHandle
import Derived.Stop.Joined
import Derived.Stop.LaidErr
import Derived.Lib.LaidTab
import Derived.RowKit
import Derived.RowKitTokens
set_option linter.unusedVariables false
set_option maxRecDepth 100000
namespace Go.Proofs.YtaeadfaldglniaaGreatDoor
open Go.ChangeShapes Go.WideShapes Go.ChangeAt Go.RowKit Go.Vsi

theorem vsi_own : ownKnob Tryz.checked.prog.godebug = none := by kernel_rfl
theorem vsi_laid : laidOutB Tryz.checked.prog = true := by kernel_rfl

def lawPars : List Par := [⟨36, [.sl 72 (.prod .str (.int .i64))], false⟩, ⟨39, [.sl 114 (.prod (.int .i64) (.prod (.int .i64) (.prod (.int .i64) (.prod (.int .i64) (.prod (.int .i64) (.prod (.sl 110 (.int .u64)) (.sl 2 (.int .i64))))))))], true⟩, ⟨2, [.int .i64], false⟩, ⟨39, [.sl 114 (.prod (.int .i64) (.prod (.int .i64) (.prod (.int .i64) (.prod (.int .i64) (.prod (.int .i64) (.prod (.sl 110 (.int .u64)) (.sl 2 (.int .i64))))))))], true⟩]

theorem law_pars : ∀ p ∈ lawPars, ParOK Tryz.checked.prog p := by
  intro p hp
  simp only [lawPars, List.mem_cons, List.not_mem_nil, or_false] at hp
  rcases hp with rfl | rfl | rfl | rfl
  · exact { lv := by kernel_rfl, yes := fun h => Bool.noConfusion h, no := fun _ => Or.inr (Or.inr (Or.inr ⟨72, by kernel_rfl⟩)), rd := by kernel_rfl, row := of_decide_eq_true (by kernel_rfl) }
  · exact { lv := by kernel_rfl, yes := fun _ => ⟨_, Tryz.underlying39⟩, no := fun h => Bool.noConfusion h, rd := by kernel_rfl, row := of_decide_eq_true (by kernel_rfl) }
  · exact { lv := by kernel_rfl, yes := fun h => Bool.noConfusion h, no := fun _ => Or.inl ⟨.i64, by kernel_rfl⟩, rd := by kernel_rfl, row := of_decide_eq_true (by kernel_rfl) }
  · exact { lv := by kernel_rfl, yes := fun _ => ⟨_, Tryz.underlying39⟩, no := fun h => Bool.noConfusion h, rd := by kernel_rfl, row := of_decide_eq_true (by kernel_rfl) }

theorem gd_of : ∀ {t : Ty} {x : t.T}, Vsi.Good t x → Gd t x
  | .int _, _, h => h
  | .str, _, h => h
  | .sl _ t, l, h => ⟨h.1, fun y hy => by
      obtain ⟨i, hi, rfl⟩ := List.getElem_of_mem hy
      exact gd_of (h.2 i hi)⟩
  | .prod _ _, _, h => ⟨gd_of h.1, gd_of h.2⟩
  | .bool, _, _ => trivial
  | .unit, _, _ => trivial
  | .ptr _ _, _, _ => trivial

theorem law_answers (x : Dat lawPars) (hx : GoodD lawPars x) : ∃ n, callM C X0 n 6 (svs lawPars x) (fun r => r.ret = .c (.bool true)) := by
  obtain ⟨n, h⟩ := Ev.some ((replace_law (show Gd (.sl 0 (.prod .str (.int .i64))) x.1 from gd_of hx.1) (show Gd (.sl 0 (.prod (.int .i64) (.prod (.int .i64) (.prod (.int .i64) (.prod (.int .i64) (.prod (.int .i64) (.prod (.sl 0 (.int .u64)) (.sl 0 (.int .i64))))))))) x.2.1 from gd_of hx.2.1) (show Gd (.int .i64) x.2.2.1 from gd_of hx.2.2.1) (show Gd (.sl 0 (.prod (.int .i64) (.prod (.int .i64) (.prod (.int .i64) (.prod (.int .i64) (.prod (.int .i64) (.prod (.sl 0 (.int .u64)) (.sl 0 (.int .i64))))))))) x.2.2.2.1 from gd_of hx.2.2.2.1) (fun b => SV.c (.bool b) = SV.c (.bool true))).2 rfl)
  exact ⟨n, laws_FnExactReplace_ok X0_mono n (x.1, (x.2.1, ()), x.2.2.1, (x.2.2.2.1, ()), ()) (fun r => r.ret = .c (.bool true)) h⟩

theorem tab_eq : (Rows.laid_internal_strconv_uint64pow10 : DataW Unit) = Go.Lib.tabData .u64 Go.Lib.pow10Tab := by kernel_rfl
theorem tab_g : Tryz.prog.globalNamed "internal/strconv.uint64pow10" = some 0 := by kernel_rfl

/-- What the row's condition gives: the table of tens. -/
theorem tab_laid (W : World) (h : laidMetH Tryz.prog Rows.fnExactReplaceRow.laid W) : TabOK (fun y => y < W.heap.size) W := by
  have h1 : laidMet Tryz.prog Rows.fnExactReplaceRow.laid W := h
  have h2 : laidMet Tryz.prog (("internal/strconv.uint64pow10", Rows.laid_internal_strconv_uint64pow10) :: []) W := h1.tail.tail
  rw [tab_eq] at h2
  have h3 := Go.Lib.tabIs_of_head tab_g (t := 244) (by kernel_rfl) Tryz.underlying244 (by kernel_rfl) (by kernel_rfl) (by kernel_rfl) h2
  intro g hg
  have eg : g = 0 := (Option.some.inj (hg.symm.trans (show tabG = some 0 from rfl)))
  subst eg
  unfold Go.Lib.TabIs World.var? at h3
  rw [tab_g] at h3
  have h4 : (match (W.heap[0]? : Option Obj) with
    | .some (Obj.cells cs _ _) => some cs
    | _ => none) = some (Go.Lib.pow10Tab.map fun z => Value.int .u64 z).toArray := h3
  split at h4
  · rename_i cs e fr hh
    refine ⟨?_, e, fr, ?_⟩
    · rcases Nat.lt_or_ge 0 W.heap.size with h' | h'
      · exact h'
      · rw [Array.getElem?_eq_none h'] at hh; cases hh
    · rw [hh]
      have e1 := Option.some.inj h4
      rw [e1]; rfl
  · cases h4

/-- A world that meets the condition: the settled one, the tables laid. -/
noncomputable def laidWorld (os : Os) : World :=
  let w0 := World.holding Tryz.prog os ⟨#[], #[], []⟩
  let w1 := { w0 with heap := w0.heap.modify 4 fun (o : Obj) => match o with
      | Obj.cells _ t frozen => Obj.cells #[Value.int .u8 0, Value.int .u8 1, Value.int .u8 28, Value.int .u8 2, Value.int .u8 29, Value.int .u8 14, Value.int .u8 24, Value.int .u8 3, Value.int .u8 30, Value.int .u8 22, Value.int .u8 20, Value.int .u8 15, Value.int .u8 25, Value.int .u8 17, Value.int .u8 4, Value.int .u8 8, Value.int .u8 31, Value.int .u8 27, Value.int .u8 13, Value.int .u8 23, Value.int .u8 21, Value.int .u8 19, Value.int .u8 16, Value.int .u8 7, Value.int .u8 26, Value.int .u8 12, Value.int .u8 18, Value.int .u8 6, Value.int .u8 11, Value.int .u8 5, Value.int .u8 10, Value.int .u8 9] t frozen
      | o => o }
  let w2 := { w1 with heap := w1.heap.modify 5 fun (o : Obj) => match o with
      | Obj.cells _ t frozen => Obj.cells #[Value.int .u8 0, Value.int .u8 1, Value.int .u8 56, Value.int .u8 2, Value.int .u8 57, Value.int .u8 49, Value.int .u8 28, Value.int .u8 3, Value.int .u8 61, Value.int .u8 58, Value.int .u8 42, Value.int .u8 50, Value.int .u8 38, Value.int .u8 29, Value.int .u8 17, Value.int .u8 4, Value.int .u8 62, Value.int .u8 47, Value.int .u8 59, Value.int .u8 36, Value.int .u8 45, Value.int .u8 43, Value.int .u8 51, Value.int .u8 22, Value.int .u8 53, Value.int .u8 39, Value.int .u8 33, Value.int .u8 30, Value.int .u8 24, Value.int .u8 18, Value.int .u8 12, Value.int .u8 5, Value.int .u8 63, Value.int .u8 55, Value.int .u8 48, Value.int .u8 27, Value.int .u8 60, Value.int .u8 41, Value.int .u8 37, Value.int .u8 16, Value.int .u8 46, Value.int .u8 35, Value.int .u8 44, Value.int .u8 21, Value.int .u8 52, Value.int .u8 32, Value.int .u8 23, Value.int .u8 11, Value.int .u8 54, Value.int .u8 26, Value.int .u8 40, Value.int .u8 15, Value.int .u8 34, Value.int .u8 20, Value.int .u8 31, Value.int .u8 10, Value.int .u8 25, Value.int .u8 14, Value.int .u8 19, Value.int .u8 9, Value.int .u8 13, Value.int .u8 8, Value.int .u8 7, Value.int .u8 6] t frozen
      | o => o }
  let w3 := { w2 with heap := w2.heap.modify 0 fun (o : Obj) => match o with
      | Obj.cells _ t frozen => Obj.cells #[Value.int .u64 1, Value.int .u64 10, Value.int .u64 100, Value.int .u64 1000, Value.int .u64 10000, Value.int .u64 100000, Value.int .u64 1000000, Value.int .u64 10000000, Value.int .u64 100000000, Value.int .u64 1000000000, Value.int .u64 10000000000, Value.int .u64 100000000000, Value.int .u64 1000000000000, Value.int .u64 10000000000000, Value.int .u64 100000000000000, Value.int .u64 1000000000000000, Value.int .u64 10000000000000000, Value.int .u64 100000000000000000, Value.int .u64 1000000000000000000, Value.int .u64 10000000000000000000] t frozen
      | o => o }
  w3
theorem laidWorld_met (os : Os) (args : Array Value) : laidMetH Tryz.prog Rows.fnExactReplaceRow.laid ((laidWorld os).forCall (fun _ _ => 0) ⟨#[], args, []⟩).memory :=
  laidMetH_of_parts (laidMet_of_run' 8 (by kernel_rfl) (by kernel_rfl)) (by kernel_rfl)

theorem law_lifts (os : Os) (started : os.Started) (H : Type) (enc : TypeId × Value → H) :
    ReturnsInHanded {} Tryz.checked os 6 .any (fun w args => (Rows.fnExactReplaceSpec.pre enc Tryz.prog Tryz.f6 Rows.fnExactReplaceRow.domain false w args ∧ laidMetH Tryz.prog Rows.fnExactReplaceRow.laid w) ∧ sizedMet enc Tryz.prog Tryz.f6 (OpenSpec.ofChange Rows.fnExactReplaceSpec) false w args) (Rows.fnExactReplaceSpec.post enc Tryz.prog Tryz.f6 false true false false) :=
  law_lifted_laid (Ck := Tryz.checked) (C := C) (X0 := X0) vsi_own started C_ok C_follows C_fns X0_ok (f := 6) (fn := Tryz.f6) (c := bodyOf Tryz.f6) (by kernel_rfl) (by kernel_rfl) (by kernel_rfl) vsi_laid
    (ps := lawPars) law_pars (by kernel_rfl) (tb := 4) (by kernel_rfl) (by kernel_rfl) (fun x => rfl) law_answers
    (X := fun w => laidMetH Tryz.prog Rows.fnExactReplaceRow.laid w) (fun _ _ hh h => laidMetH.of_heap hh h) tab_laid rfl (fun ds h => by
      match ds, h with
      | [d0, d1, d2, d3], _ => rfl)
    (ChangeSpec.witness_at (enc := enc) (C := Tryz.checked) (os := os) (X := fun w _ => laidMetH Tryz.prog Rows.fnExactReplaceRow.laid w) false (laidWorld os) #[.slice none 0 0, .agg #[.slice none 0 0], .int .i64 0, .agg #[.slice none 0 0]] 8 rfl (by kernel_rfl) (by kernel_rfl) (by kernel_rfl) (by kernel_rfl) (by kernel_rfl) (laidWorld_met os _))

end Go.Proofs.YtaeadfaldglniaaGreatDoor
