/- The machine answers laws.FnDeclared. No statement is proved here. -/
import Derived.Test.YtfmjhfijkdlidaaB2
import Derived.Test.YtfmjhfijkdlidaaT1
import Derived.Test.YtfmjhfijkdlidaaRows
import Derived.ProofKit
import Derived.SizedLaws
set_option linter.unusedVariables false
set_option maxRecDepth 100000
namespace Go.Proofs.Ytfmjhfijkdlidaa
open Go.ChangeShapes Go.WideShapes Go.ChangeAt Go.RowKit Go.Vsi

theorem vsi_own : ownKnob Try.checked.prog.godebug = none := by kernel_rfl
theorem vsi_laid : laidOutB Try.checked.prog = true := by kernel_rfl

def lawPars : List Par := [⟨22, [.sl 5 (.int .u8)], false⟩]

theorem law_pars : ∀ p ∈ lawPars, ParOK Try.checked.prog p := by
  intro p hp
  simp only [lawPars, List.mem_cons, List.not_mem_nil, or_false] at hp
  subst hp
  · exact { lv := by kernel_rfl, yes := fun h => Bool.noConfusion h, no := fun _ => Or.inr (Or.inr (Or.inr ⟨5, by kernel_rfl⟩)), rd := by kernel_rfl, row := of_decide_eq_true (by kernel_rfl) }

theorem gd_of : ∀ {t : Ty} {x : t.T}, Vsi.Good t x → Gd t x
  | .int _, _, h => h
  | .str, _, h => h
  | .sl _ t, l, h => ⟨h.1, fun y hy => by
      obtain ⟨i, hi, rfl⟩ := List.getElem_of_mem hy
      exact gd_of (h.2 i hi)⟩
  | .prod _ _, _, h => ⟨gd_of h.1, gd_of h.2⟩
  | .bool, _, _ => trivial
  | .unit, _, _ => trivial
  | .ptr _ _, _, _ => trivial

theorem law_answers (x : Dat lawPars) (hx : GoodD lawPars x) : ∃ n, callM C noX n 3 (svs lawPars x) (fun r => r.ret = .c (.bool true)) := by
  obtain ⟨n, h⟩ := Ev.some ((declared_law (show Gd (.sl 0 (.int .u8)) x.1 from gd_of hx.1) (fun b => SV.c (.bool b) = SV.c (.bool true))).2 rfl)
  exact ⟨n, laws_FnDeclared_ok (X0 := noX) noX_mono n (x.1, ()) (fun r => r.ret = .c (.bool true)) h⟩

theorem law_lifts (os : Os) (started : os.Started) (H : Type) (enc : TypeId × Value → H) :
    ReturnsInHanded {} Try.checked os 3 .any (Rows.fnDeclaredSpec.pre6 enc Try.prog Try.f3 Rows.fnDeclaredRow.domain false) (Rows.fnDeclaredSpec.post enc Try.prog Try.f3 false true false false) :=
  law_lifted (Ck := Try.checked) (C := C) (X0 := noX) vsi_own started C_ok C_follows C_fns (noX_ok _ _) (f := 3) (fn := Try.f3) (c := bodyOf Try.f3) (by kernel_rfl) (by kernel_rfl) (by kernel_rfl) vsi_laid
    (ps := lawPars) law_pars (by kernel_rfl) (tb := 4) (by kernel_rfl) (by kernel_rfl) (fun x => rfl) law_answers
    (fun _ _ h => by cases h) rfl (fun ds h => by
      match ds, h with
      | [d0], _ => rfl)
    (ChangeSpec.witness6 (enc := enc) (C := Try.checked) false ⟨#[], #[.slice none 0 0], []⟩ 8 (by kernel_rfl) (by kernel_rfl) (by kernel_rfl) (by kernel_rfl))

end Go.Proofs.Ytfmjhfijkdlidaa
