/- Plain facts about the printed functions of package op and its reference: the shapes, and the fixed calls of 'live'. -/
import Derived.Test.YtmamaijiphdggaaDoorPOpx5
namespace Go.Proofs.YtmamaijiphdggaaDoor.Math
open Go.RowKit Go.Proofs.YtmamaijiphdggaaDoor.POp Go.Proofs.YtmamaijiphdggaaDoor.Given Go.Proofs.YtmamaijiphdggaaDoorW.PrintWords Go.Proofs.YtmamaijiphdggaaDoorW.PrintLast Go.Proofs.YtmamaijiphdggaaDoorW.PrintMore
set_option linter.unusedVariables false
set_option linter.unusedSimpArgs false

theorem live_true : secateurlaw07_live.f 100 = some true := by decide +kernel
theorem refShape_in : ∀ n : Fin 33, secateurref07_Shape.f 20 (n.val : Int) = some (shapeB n.val) := by decide +kernel
theorem refShape_out (o : Int) (h : ¬ (0 ≤ o ∧ o ≤ 32)) : secateurref07_Shape.f 20 o = some (shapeB o) := by
  have e : ∀ n : Int, 0 ≤ n → n ≤ 32 → ¬ o = n := fun n h1 h2 h3 => h ⟨by omega, by omega⟩
  have hs : shapeB o = ⟨#[]⟩ := by unfold shapeB; rw [if_neg (by omega)]
  rw [hs]
  simp [secateurref07_Shape.j0, secateurref07_Shape.j1, secateurref07_Shape.j2, secateurref07_Shape.j3, secateurref07_Shape.j4, secateurref07_Shape.j5, secateurref07_Shape.j6, secateurref07_Shape.f, e 0 (by omega) (by omega), e 1 (by omega) (by omega), e 2 (by omega) (by omega), e 3 (by omega) (by omega), e 4 (by omega) (by omega), e 5 (by omega) (by omega), e 6 (by omega) (by omega), e 7 (by omega) (by omega), e 8 (by omega) (by omega), e 9 (by omega) (by omega), e 10 (by omega) (by omega), e 11 (by omega) (by omega), e 12 (by omega) (by omega), e 13 (by omega) (by omega), e 14 (by omega) (by omega), e 15 (by omega) (by omega), e 16 (by omega) (by omega), e 17 (by omega) (by omega), e 18 (by omega) (by omega), e 19 (by omega) (by omega), e 20 (by omega) (by omega), e 21 (by omega) (by omega), e 22 (by omega) (by omega), e 23 (by omega) (by omega), e 24 (by omega) (by omega), e 25 (by omega) (by omega), e 26 (by omega) (by omega), e 27 (by omega) (by omega), e 28 (by omega) (by omega), e 29 (by omega) (by omega), e 30 (by omega) (by omega), e 31 (by omega) (by omega), e 32 (by omega) (by omega)]
theorem refShape (o : Int) : secateurref07_Shape.f 20 o = some (shapeB o) := by
  by_cases h : 0 ≤ o ∧ o ≤ 32
  · have := refShape_in ⟨o.toNat, by omega⟩
    simpa [Int.toNat_of_nonneg h.1] using this
  · exact refShape_out o h
end Go.Proofs.YtmamaijiphdggaaDoor.Math
