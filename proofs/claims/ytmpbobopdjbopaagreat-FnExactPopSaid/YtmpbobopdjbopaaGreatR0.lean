/- The machine answers laws.FnExactPop. No statement is proved here. -/
import Derived.Test.YtmpbobopdjbopaaGreatB1
import Derived.Test.YtmpbobopdjbopaaGreatT1
import Derived.Test.YtmpbobopdjbopaaGreatRows
import Derived.ProofKit
import Derived.SizedLaws
set_option linter.unusedVariables false
set_option maxRecDepth 100000
namespace Go.Proofs.YtmpbobopdjbopaaGreat
open Go.ChangeShapes Go.WideShapes Go.ChangeAt Go.RowKit Go.Vsi

theorem vsi_own : ownKnob Tryz.checked.prog.godebug = none := by kernel_rfl
theorem vsi_laid : laidOutB Tryz.checked.prog = true := by kernel_rfl

def lawPars : List Par := [⟨57, [.sl 74 (.prod .str (.int .i64)), .sl 160 (.prod (.int .i64) (.sl 109 (.prod (.int .i64) (.prod .bool (.prod (.sl 192 (.prod (.int .i64) (.prod (.int .i64) (.prod (.int .i64) (.prod (.int .i64) (.prod (.int .i64) (.prod (.sl 150 (.int .u64)) (.sl 2 (.int .i64))))))))) (.sl 192 (.prod (.int .i64) (.prod (.int .i64) (.prod (.int .i64) (.prod (.int .i64) (.prod (.int .i64) (.prod (.sl 150 (.int .u64)) (.sl 2 (.int .i64)))))))))))))), .int .i64], true⟩]

theorem law_pars : ∀ p ∈ lawPars, ParOK Tryz.checked.prog p := by
  intro p hp
  simp only [lawPars, List.mem_cons, List.not_mem_nil, or_false] at hp
  subst hp
  · exact { lv := by kernel_rfl, yes := fun _ => ⟨_, Tryz.underlying57⟩, no := fun h => Bool.noConfusion h, rd := by kernel_rfl, row := of_decide_eq_true (by kernel_rfl) }

theorem gd_of : ∀ {t : Ty} {x : t.T}, Vsi.Good t x → Gd t x
  | .int _, _, h => h
  | .str, _, h => h
  | .sl _ t, l, h => ⟨h.1, fun y hy => by
      obtain ⟨i, hi, rfl⟩ := List.getElem_of_mem hy
      exact gd_of (h.2 i hi)⟩
  | .prod _ _, _, h => ⟨gd_of h.1, gd_of h.2⟩
  | .bool, _, _ => trivial
  | .unit, _, _ => trivial
  | .ptr _ _, _, _ => trivial

theorem law_answers (x : Dat lawPars) (hx : GoodD lawPars x) : ∃ n, callM C noX n 6 (svs lawPars x) (fun r => r.ret = .c (.bool true)) := by
  obtain ⟨n, h⟩ := Ev.some ((pop_law (show Gd (.prod (.sl 0 (.prod .str (.int .i64))) (.prod (.sl 0 (.prod (.int .i64) (.sl 0 (.prod (.int .i64) (.prod .bool (.prod (.sl 0 (.prod (.int .i64) (.prod (.int .i64) (.prod (.int .i64) (.prod (.int .i64) (.prod (.int .i64) (.prod (.sl 0 (.int .u64)) (.sl 0 (.int .i64))))))))) (.sl 0 (.prod (.int .i64) (.prod (.int .i64) (.prod (.int .i64) (.prod (.int .i64) (.prod (.int .i64) (.prod (.sl 0 (.int .u64)) (.sl 0 (.int .i64))))))))))))))) (.int .i64))) (x.1.1, x.1.2.1, x.1.2.2) from gd_of hx.1) (fun b => SV.c (.bool b) = SV.c (.bool true))).2 rfl)
  exact ⟨n, laws_FnExactPop_ok (X0 := noX) noX_mono n ((x.1.1, x.1.2.1, x.1.2.2, ()), ()) (fun r => r.ret = .c (.bool true)) h⟩

theorem law_lifts (os : Os) (started : os.Started) (H : Type) (enc : TypeId × Value → H) :
    ReturnsInHanded {} Tryz.checked os 6 .any (Rows.fnExactPopSpec.pre6 enc Tryz.prog Tryz.f6 Rows.fnExactPopRow.domain false) (Rows.fnExactPopSpec.post enc Tryz.prog Tryz.f6 false true false false) :=
  law_lifted (Ck := Tryz.checked) (C := C) (X0 := noX) vsi_own started C_ok C_follows C_fns (noX_ok _ _) (f := 6) (fn := Tryz.f6) (c := bodyOf Tryz.f6) (by kernel_rfl) (by kernel_rfl) (by kernel_rfl) vsi_laid
    (ps := lawPars) law_pars (by kernel_rfl) (tb := 4) (by kernel_rfl) (by kernel_rfl) (fun x => rfl) law_answers
    rfl (fun ds h => by
      match ds, h with
      | [d0], _ => rfl)
    (ChangeSpec.witness6 (enc := enc) (C := Tryz.checked) false ⟨#[], #[.agg #[.slice none 0 0, .slice none 0 0, .int .i64 0]], []⟩ 8 (by kernel_rfl) (by kernel_rfl) (by kernel_rfl) (by kernel_rfl))

end Go.Proofs.YtmpbobopdjbopaaGreat
