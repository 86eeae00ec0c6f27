/- The machine answers laws.FnExactParts. No statement is proved here. -/
import Derived.Test.YtaeadfaldglniaaGreatB1
import Derived.Test.YtaeadfaldglniaaGreatT1
import Derived.Test.YtaeadfaldglniaaGreatRows
import Derived.ProofKit
import Derived.SizedLaws
set_option linter.unusedVariables false
set_option maxRecDepth 100000
namespace Go.Proofs.YtaeadfaldglniaaGreat
open Go.ChangeShapes Go.WideShapes Go.ChangeAt Go.RowKit Go.Vsi

theorem vsi_own : ownKnob Tryz.checked.prog.godebug = none := by kernel_rfl
theorem vsi_laid : laidOutB Tryz.checked.prog = true := by kernel_rfl

def lawPars : List Par := [⟨22, [.sl 42 (.prod .str (.int .i64))], false⟩, ⟨23, [.sl 48 (.prod (.int .i64) (.prod .bool (.prod (.sl 102 (.prod (.int .i64) (.prod (.int .i64) (.prod (.int .i64) (.prod (.int .i64) (.prod (.int .i64) (.prod (.sl 98 (.int .u64)) (.sl 2 (.int .i64))))))))) (.sl 102 (.prod (.int .i64) (.prod (.int .i64) (.prod (.int .i64) (.prod (.int .i64) (.prod (.int .i64) (.prod (.sl 98 (.int .u64)) (.sl 2 (.int .i64))))))))))))], false⟩]

theorem law_pars : ∀ p ∈ lawPars, ParOK Tryz.checked.prog p := by
  intro p hp
  simp only [lawPars, List.mem_cons, List.not_mem_nil, or_false] at hp
  rcases hp with rfl | rfl
  · exact { lv := by kernel_rfl, yes := fun h => Bool.noConfusion h, no := fun _ => Or.inr (Or.inr (Or.inr ⟨42, by kernel_rfl⟩)), rd := by kernel_rfl, row := of_decide_eq_true (by kernel_rfl) }
  · exact { lv := by kernel_rfl, yes := fun h => Bool.noConfusion h, no := fun _ => Or.inr (Or.inr (Or.inr ⟨48, by kernel_rfl⟩)), rd := by kernel_rfl, row := of_decide_eq_true (by kernel_rfl) }

theorem gd_of : ∀ {t : Ty} {x : t.T}, Vsi.Good t x → Gd t x
  | .int _, _, h => h
  | .str, _, h => h
  | .sl _ t, l, h => ⟨h.1, fun y hy => by
      obtain ⟨i, hi, rfl⟩ := List.getElem_of_mem hy
      exact gd_of (h.2 i hi)⟩
  | .prod _ _, _, h => ⟨gd_of h.1, gd_of h.2⟩
  | .bool, _, _ => trivial
  | .unit, _, _ => trivial
  | .ptr _ _, _, _ => trivial

theorem law_answers (x : Dat lawPars) (hx : GoodD lawPars x) : ∃ n, callM C X0 n 3 (svs lawPars x) (fun r => r.ret = .c (.bool true)) := by
  obtain ⟨n, h⟩ := Ev.some ((parts_law (show Gd (.sl 0 (.prod .str (.int .i64))) x.1 from gd_of hx.1) (show Gd (.sl 0 (.prod (.int .i64) (.prod .bool (.prod (.sl 0 (.prod (.int .i64) (.prod (.int .i64) (.prod (.int .i64) (.prod (.int .i64) (.prod (.int .i64) (.prod (.sl 0 (.int .u64)) (.sl 0 (.int .i64))))))))) (.sl 0 (.prod (.int .i64) (.prod (.int .i64) (.prod (.int .i64) (.prod (.int .i64) (.prod (.int .i64) (.prod (.sl 0 (.int .u64)) (.sl 0 (.int .i64))))))))))))) x.2.1 from gd_of hx.2.1) (fun b => SV.c (.bool b) = SV.c (.bool true))).2 rfl)
  exact ⟨n, laws_FnExactParts_ok X0_mono n (x.1, x.2.1, ()) (fun r => r.ret = .c (.bool true)) h⟩

theorem law_lifts (os : Os) (started : os.Started) (H : Type) (enc : TypeId × Value → H) :
    ReturnsInHanded {} Tryz.checked os 3 .any (Rows.fnExactPartsSpec.pre6 enc Tryz.prog Tryz.f3 Rows.fnExactPartsRow.domain false) (Rows.fnExactPartsSpec.post enc Tryz.prog Tryz.f3 false true false false) :=
  law_lifted (Ck := Tryz.checked) (C := C) (X0 := X0) vsi_own started C_ok C_follows C_fns X0_ok (f := 3) (fn := Tryz.f3) (c := bodyOf Tryz.f3) (by kernel_rfl) (by kernel_rfl) (by kernel_rfl) vsi_laid
    (ps := lawPars) law_pars (by kernel_rfl) (tb := 4) (by kernel_rfl) (by kernel_rfl) (fun x => rfl) law_answers
    (fun _ _ h => by cases h) rfl (fun ds h => by
      match ds, h with
      | [d0, d1], _ => rfl)
    (ChangeSpec.witness6 (enc := enc) (C := Tryz.checked) false ⟨#[], #[.slice none 0 0, .slice none 0 0], []⟩ 8 (by kernel_rfl) (by kernel_rfl) (by kernel_rfl) (by kernel_rfl))

end Go.Proofs.YtaeadfaldglniaaGreat
