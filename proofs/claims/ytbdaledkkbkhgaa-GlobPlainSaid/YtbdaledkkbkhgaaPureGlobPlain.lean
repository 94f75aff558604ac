/- What is plain matches itself alone, and a star matches all: what the law's printed function answers. -/
import Derived.Test.YtbdaledkkbkhgaaPGlobx6
import Derived.Test.YtbdaledkkbkhgaaGlobPlain0
namespace Go.Proofs.Ytbdaledkkbkhgaa.Pure
open Go.RowKit Go.Proofs.Ytbdaledkkbkhgaa.PGlob Go.Proofs.YtbdaledkkbkhgaaW.PrintWords Go.Proofs.YtbdaledkkbkhgaaW.PrintLast Go.Proofs.Ytbdaledkkbkhgaa.GlobMath Go.Proofs.Ytbdaledkkbkhgaa.GlobPure

theorem GlobPlain : secateurlaw21_GlobPlain.Pure := by
  intro p s _ _
  obtain ⟨p', ep, hp⟩ := cut_some p
  obtain ⟨s', es, hs⟩ := cut_some s
  refine Ev.rounds ?_
  refine Ev.congr (f := fun k => (secateurlaw21_live.f k).bind fun t195 => (if t195 = true then ((glob_Match.f k (⟨#[42]⟩ : ByteArray) s').bind fun t196 => (if t196 = true then ((glob_Plain.f p').bind fun t197 => (if t197 = true then ((glob_Match.f k p' s').bind fun t198 => (some (t198 == (p'.toList == s'.toList)))) else (some true))) else (some false))) else (some false))) (fun k => ?_) ?_
  · unfold secateurlaw21_GlobPlain.f
    rw [bind_some_eq ep, bind_some_eq es]
  refine Ev.bind live_ev ?_
  refine Ev.congr (fun k => if_pos rfl) ?_
  refine Ev.bind (match_ev ⟨#[42]⟩ s' (by decide) (by omega)) ?_
  have h1 : MtB (⟨#[42]⟩ : ByteArray).data.toList s'.data.toList = true := MtB_true ((Mt_star [] _).2 ⟨s'.data.toList, [], by simp, rfl⟩)
  rw [h1]
  refine Ev.congr (fun k => if_pos rfl) ?_
  refine Ev.congr (fun k => bind_some_eq (plain_eq p') _) ?_
  cases h2 : PlainB p'.data.toList with
  | false => exact Ev.congr (fun k => if_neg (by simp)) (Ev.now _)
  | true =>
    refine Ev.congr (fun k => if_pos rfl) ?_
    refine Ev.bind (match_ev p' s' (by omega) (by omega)) ?_
    have : (MtB p'.data.toList s'.data.toList == (p'.toList == s'.toList)) = true := by
      rw [beq_iff_eq, Bool.eq_iff_iff, MtB_iff, Mt_plain _ _ ((PlainB_iff _).1 h2), beq_iff_eq]
      rw [ByteArray.toList_eq, ByteArray.toList_eq]
    rw [this]
    exact Ev.now _
end Go.Proofs.Ytbdaledkkbkhgaa.Pure
