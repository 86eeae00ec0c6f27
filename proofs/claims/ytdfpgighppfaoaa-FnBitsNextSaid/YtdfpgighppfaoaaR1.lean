/- Whatever the bytes that it is handed, laws.FnBitsNext answers true, and the bytes read behind the call as before. Conditions: none. -/
import Derived.Test.YtdfpgighppfaoaaB1
import Derived.Test.YtdfpgighppfaoaaRows
import Derived.ProofKit
import Derived.SizedLaws
set_option linter.unusedVariables false
namespace Go.Proofs.Ytdfpgighppfaoaa
open Go.ChangeShapes Go.WideShapes Go.ChangeAt Go.RowKit Go.Vsi

theorem vsi_own : ownKnob Try.checked.prog.godebug = none := by kernel_rfl
theorem vsi_laid : laidOutB Try.checked.prog = true := by kernel_rfl

def partsPars : List Par := [⟨22, [.sl 5 (.int .u8)], false⟩]

theorem parts_pars : ∀ p ∈ partsPars, ParOK Try.checked.prog p := by
  intro p hp
  simp only [partsPars, List.mem_singleton] at hp
  subst hp
  exact { lv := by kernel_rfl, yes := fun h => Bool.noConfusion h, no := fun _ => Or.inr (Or.inr (Or.inr ⟨5, by kernel_rfl⟩)), rd := by kernel_rfl, row := of_decide_eq_true (by kernel_rfl) }

theorem good_bytes {e : TypeId} {l : List Int} (h : Vsi.Good (.sl e (.int .u8)) l) : ∀ y ∈ l, 0 ≤ y ∧ y < 256 := by
  intro y hy
  obtain ⟨i, hi, rfl⟩ := List.getElem_of_mem hy
  have h1 : (0 : Int) ≤ l[i] := (h.2 i hi).1
  have h2 : l[i] ≤ (255 : Int) := (h.2 i hi).2
  exact ⟨h1, by omega⟩

theorem parts_lifted (os : Os) (started : os.Started) (H : Type) (enc : TypeId × Value → H) :
    ReturnsInHanded {} Try.checked os 4 .any (Rows.fnBitsNextSpec.pre6 enc Try.prog Try.f4 Rows.fnBitsNextRow.domain false) (Rows.fnBitsNextSpec.post enc Try.prog Try.f4 false true false false) :=
  law_lifted (Ck := Try.checked) (C := C) (X0 := noX) vsi_own started C_ok C_follows C_fns (noX_ok _ _) (f := 4) (fn := Try.f4) (c := bodyOf Try.f4) (by kernel_rfl) (by kernel_rfl) (by kernel_rfl) vsi_laid
    (ps := partsPars) parts_pars (by kernel_rfl) (tb := 4) (by kernel_rfl) (by kernel_rfl) (fun x => rfl)
    (fun x hx => by
      obtain ⟨n, h⟩ := next_law (a1 := x.1) (good_bytes hx.1) (fun b => SV.c (.bool b) = SV.c (.bool true)) rfl
      exact ⟨n, laws_FnBitsNext_ok noX noX_mono n x.1 _ h⟩)
    rfl (fun ds h => by
      match ds, h with
      | [d], _ => rfl)
    (ChangeSpec.witness6 (enc := enc) (C := Try.checked) false ⟨#[], #[.slice none 0 0], []⟩ 8 (by kernel_rfl) (by kernel_rfl) (by kernel_rfl) (by kernel_rfl))

theorem fnBitsNext_holds : Rows.FnBitsNextSaid :=
  OpenClaim.holds_of_wide 4 Try.f4 rfl rfl rfl rfl rfl rfl rfl ⟨rfl, rfl, rfl, rfl, rfl⟩ rfl rfl rfl rfl rfl (by kernel_rfl) Try.func4 (by kernel_rfl)
    (of_decide_eq_true (by kernel_rfl)) (by unfold Func.isWrapper; rw [if_neg (of_decide_eq_false (by kernel_rfl))]; exact ⟨rfl, rfl⟩)
    (fun os started H enc _ => parts_lifted os started H enc)

end Go.Proofs.Ytdfpgighppfaoaa
