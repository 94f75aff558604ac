/- The plain law of OpShapes. -/
import Derived.Test.YtmamaijiphdggaaDoorMath
namespace Go.Proofs.YtmamaijiphdggaaDoor.Pure
open Go.RowKit Go.Proofs.YtmamaijiphdggaaDoor.POp Go.Proofs.YtmamaijiphdggaaDoor.Given Go.Proofs.YtmamaijiphdggaaDoor.Math Go.Proofs.YtmamaijiphdggaaDoorW.PrintWords Go.Proofs.YtmamaijiphdggaaDoorW.PrintLast Go.Proofs.YtmamaijiphdggaaDoorW.PrintMore
set_option linter.unusedVariables false

theorem isCall_same (o : Int) : op_IsCall.f o = secateurref07_IsCall.f o := by
  unfold op_IsCall.f secateurref07_IsCall.f
  split
  · rfl
  · split
    · rfl
    · split
      · rename_i h; subst h; rfl
      · rename_i h; rw [beq_eq_false_iff_ne.mpr h]
theorem falls_same (o : Int) : ∃ r, op_Falls.f o = some r ∧ secateurref07_Falls.f o = some r := by
  unfold op_Falls.f secateurref07_Falls.f op_right.f
  by_cases h1 : o ≥ 1
  · by_cases h2 : o ≤ 32
    · by_cases h6 : o = 6
      · subst h6; exact ⟨false, rfl, rfl⟩
      · by_cases h22 : o = 22
        · subst h22; exact ⟨false, rfl, rfl⟩
        · by_cases h23 : o = 23
          · subst h23; exact ⟨false, rfl, rfl⟩
          · by_cases h30 : o = 30
            · subst h30; exact ⟨false, rfl, rfl⟩
            · refine ⟨true, ?_, ?_⟩
              · rw [if_neg h6, if_neg h22, if_neg h23, if_neg h30, if_pos (by omega), decide_eq_true h2]; rfl
              · rw [if_pos h1, if_pos h2, if_neg h6, if_neg h22, if_neg h23, bne_iff_ne.mpr h30]
    · refine ⟨false, ?_, ?_⟩
      · rw [if_neg (by omega), if_neg (by omega), if_neg (by omega), if_neg (by omega), if_pos (by omega), decide_eq_false h2]; rfl
      · rw [if_pos h1, if_neg h2]
  · refine ⟨false, ?_, ?_⟩
    · rw [if_neg (by omega), if_neg (by omega), if_neg (by omega), if_neg (by omega), if_neg (by omega)]; rfl
    · rw [if_neg h1]
theorem isCall_some (o : Int) : ∃ r, op_IsCall.f o = some r := by
  unfold op_IsCall.f
  split
  · exact ⟨_, rfl⟩
  · split
    · exact ⟨_, rfl⟩
    · split <;> exact ⟨_, rfl⟩
theorem OpShapes (o : Int) : ∃ k, secateurlaw07_OpShapes.f k o = some true := by
  refine ⟨100, ?_⟩
  have hs : secateurref07_Shape.f 100 o = some (shapeB o) := at_rounds (fun k => secateurref07_Shape.mono o k) (show 20 ≤ 100 by omega) (refShape o)
  obtain ⟨c, hc⟩ := isCall_some o
  obtain ⟨r, hr1, hr2⟩ := falls_same o
  have hc2 := (isCall_same o).symm.trans hc
  simp [secateurlaw07_OpShapes.f, secateurlaw07_OpShapes.g, live_true, hs, hc, hc2, hr1, hr2, op_Shape.f]
end Go.Proofs.YtmamaijiphdggaaDoor.Pure
