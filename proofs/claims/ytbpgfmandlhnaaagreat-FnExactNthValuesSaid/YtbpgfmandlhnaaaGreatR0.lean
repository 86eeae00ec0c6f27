/- The machine answers laws.FnExactNthValues. No statement is proved here. -/
import Derived.Test.YtbpgfmandlhnaaaGreatB2
import Derived.Test.YtbpgfmandlhnaaaGreatT1
import Derived.Test.YtbpgfmandlhnaaaGreatRows
import Derived.ProofKit
import Derived.SizedLaws
set_option linter.unusedVariables false
set_option maxRecDepth 100000
namespace Go.Proofs.YtbpgfmandlhnaaaGreat
open Go.ChangeShapes Go.WideShapes Go.ChangeAt Go.RowKit Go.Vsi

theorem vsi_own : ownKnob Tryz.checked.prog.godebug = none := by kernel_rfl
theorem vsi_laid : laidOutB Tryz.checked.prog = true := by kernel_rfl

def lawPars : List Par := [⟨22, [.sl 53 (.prod .str (.int .i64))], false⟩, ⟨23, [.sl 59 (.prod (.int .i64) (.prod .bool (.prod (.sl 132 (.prod (.int .i64) (.prod (.int .i64) (.prod (.int .i64) (.prod (.int .i64) (.prod (.int .i64) (.prod (.sl 115 (.int .u64)) (.sl 2 (.int .i64))))))))) (.sl 132 (.prod (.int .i64) (.prod (.int .i64) (.prod (.int .i64) (.prod (.int .i64) (.prod (.int .i64) (.prod (.sl 115 (.int .u64)) (.sl 2 (.int .i64))))))))))))], false⟩, ⟨2, [.int .i64], false⟩]

theorem law_pars : ∀ p ∈ lawPars, ParOK Tryz.checked.prog p := by
  intro p hp
  simp only [lawPars, List.mem_cons, List.not_mem_nil, or_false] at hp
  rcases hp with rfl | rfl | rfl
  · exact { lv := by kernel_rfl, yes := fun h => Bool.noConfusion h, no := fun _ => Or.inr (Or.inr (Or.inr ⟨53, by kernel_rfl⟩)), rd := by kernel_rfl, row := of_decide_eq_true (by kernel_rfl) }
  · exact { lv := by kernel_rfl, yes := fun h => Bool.noConfusion h, no := fun _ => Or.inr (Or.inr (Or.inr ⟨59, by kernel_rfl⟩)), rd := by kernel_rfl, row := of_decide_eq_true (by kernel_rfl) }
  · exact { lv := by kernel_rfl, yes := fun h => Bool.noConfusion h, no := fun _ => Or.inl ⟨.i64, by kernel_rfl⟩, rd := by kernel_rfl, row := of_decide_eq_true (by kernel_rfl) }

theorem gd_of : ∀ {t : Ty} {x : t.T}, Vsi.Good t x → Gd t x
  | .int _, _, h => h
  | .str, _, h => h
  | .sl _ t, l, h => ⟨h.1, fun y hy => by
      obtain ⟨i, hi, rfl⟩ := List.getElem_of_mem hy
      exact gd_of (h.2 i hi)⟩
  | .prod _ _, _, h => ⟨gd_of h.1, gd_of h.2⟩
  | .bool, _, _ => trivial
  | .unit, _, _ => trivial
  | .ptr _ _, _, _ => trivial

theorem law_answers (x : Dat lawPars) (hx : GoodD lawPars x) : ∃ n, callM C noX n 5 (svs lawPars x) (fun r => r.ret = .c (.bool true)) := by
  obtain ⟨n, h⟩ := Ev.some ((nthValues_law (show Gd (.sl 0 (.prod .str (.int .i64))) x.1 from gd_of hx.1) (show Gd (.sl 0 (.prod (.int .i64) (.prod .bool (.prod (.sl 0 (.prod (.int .i64) (.prod (.int .i64) (.prod (.int .i64) (.prod (.int .i64) (.prod (.int .i64) (.prod (.sl 0 (.int .u64)) (.sl 0 (.int .i64))))))))) (.sl 0 (.prod (.int .i64) (.prod (.int .i64) (.prod (.int .i64) (.prod (.int .i64) (.prod (.int .i64) (.prod (.sl 0 (.int .u64)) (.sl 0 (.int .i64))))))))))))) x.2.1 from gd_of hx.2.1) (show Gd (.int .i64) x.2.2.1 from gd_of hx.2.2.1) (fun b => SV.c (.bool b) = SV.c (.bool true))).2 rfl)
  exact ⟨n, laws_FnExactNthValues_ok (X0 := noX) noX_mono n (x.1, x.2.1, x.2.2.1, ()) (fun r => r.ret = .c (.bool true)) h⟩

theorem law_lifts (os : Os) (started : os.Started) (H : Type) (enc : TypeId × Value → H) :
    ReturnsInHanded {} Tryz.checked os 5 .any (Rows.fnExactNthValuesSpec.pre6 enc Tryz.prog Tryz.f5 Rows.fnExactNthValuesRow.domain false) (Rows.fnExactNthValuesSpec.post enc Tryz.prog Tryz.f5 false true false false) :=
  law_lifted (Ck := Tryz.checked) (C := C) (X0 := noX) vsi_own started C_ok C_follows C_fns (noX_ok _ _) (f := 5) (fn := Tryz.f5) (c := bodyOf Tryz.f5) (by kernel_rfl) (by kernel_rfl) (by kernel_rfl) vsi_laid
    (ps := lawPars) law_pars (by kernel_rfl) (tb := 4) (by kernel_rfl) (by kernel_rfl) (fun x => rfl) law_answers
    rfl (fun ds h => by
      match ds, h with
      | [d0, d1, d2], _ => rfl)
    (ChangeSpec.witness6 (enc := enc) (C := Tryz.checked) false ⟨#[], #[.slice none 0 0, .slice none 0 0, .int .i64 0], []⟩ 8 (by kernel_rfl) (by kernel_rfl) (by kernel_rfl) (by kernel_rfl))

end Go.Proofs.YtbpgfmandlhnaaaGreat
