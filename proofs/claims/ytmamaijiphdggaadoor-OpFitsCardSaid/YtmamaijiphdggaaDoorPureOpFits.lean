/- The plain law of OpFits. -/
import Derived.Test.YtmamaijiphdggaaDoorRefFits
import Derived.Test.YtmamaijiphdggaaDoorPOpx10
namespace Go.Proofs.YtmamaijiphdggaaDoor.Pure
open Go.RowKit Go.Proofs.YtmamaijiphdggaaDoor.POp Go.Proofs.YtmamaijiphdggaaDoor.Given Go.Proofs.YtmamaijiphdggaaDoor.Math Go.Proofs.YtmamaijiphdggaaDoorW.PrintWords Go.Proofs.YtmamaijiphdggaaDoorW.PrintLast Go.Proofs.YtmamaijiphdggaaDoorW.PrintMore
set_option linter.unusedVariables false
set_option linter.unusedSimpArgs false

theorem OpFits (o a b c k : Int) (cl nm ds : ByteArray) (l : List Int) (regs code : Int) : ∃ n, secateurlaw07_OpFits.f n o a b c k cl nm ds l regs code = some true := by
  have key : Ev (fun n => secateurlaw07_OpFits.g n o a b c k cl nm ds l regs code) true := by
    refine Ev.congr (f := fun n => (secateurlaw07_live.f n).bind fun t248 => (if t248 = true then ((secateurlaw07_long.f o a b c k cl nm ds l).bind fun t249 => (if t249 = true then (some true) else ((op_Fits.f o a b c k cl nm ds l regs code).bind fun t250 => ((secateurref07_Fits.f n o a b c k cl nm ds l regs code).bind fun t251 => (some (t250 == t251)))))) else (some false))) (fun n => rfl) (Ev.bind live_ev (Ev.congr (fun n => if_pos rfl) ?_))
    rcases long_ref o a b c k cl nm ds l with h | ⟨h, S⟩
    · rw [h]
      exact Ev.now _
    · rw [h, opFits_ref o a b c k cl nm ds l regs code S.cl S.nm S.ds S.l]
      refine Ev.congr (f := fun n => (secateurref07_Fits.f n o a b c k cl nm ds l regs code).bind fun t251 => (some (fitsB o a b c k cl nm ds l regs code == t251))) (fun n => rfl) (Ev.bind (Fits_ref o a b c k cl nm ds l regs code S.cl S.nm S.l) ?_)
      rw [beq_self_eq_true]
      exact Ev.now _
  obtain ⟨n, hn⟩ := key.rounds
  exact ⟨n, by unfold secateurlaw07_OpFits.f; rw [hn]; rfl⟩
end Go.Proofs.YtmamaijiphdggaaDoor.Pure
