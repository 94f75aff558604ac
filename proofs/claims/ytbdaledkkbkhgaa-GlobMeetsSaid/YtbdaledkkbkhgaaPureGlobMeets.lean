/- Two that match one text meet, from both sides; a plain one meets what matches it: what the law's printed function answers. -/
import Derived.Test.YtbdaledkkbkhgaaPGlobx9
import Derived.Test.YtbdaledkkbkhgaaGlobPlain0
import Derived.Test.YtbdaledkkbkhgaaGlobRefMeets
namespace Go.Proofs.Ytbdaledkkbkhgaa.Pure
set_option linter.unusedVariables false
set_option linter.unusedSimpArgs false
open Go.RowKit Go.Proofs.Ytbdaledkkbkhgaa.PGlob Go.Proofs.YtbdaledkkbkhgaaW.PrintWords Go.Proofs.YtbdaledkkbkhgaaW.PrintLast Go.Proofs.Ytbdaledkkbkhgaa.GlobMath Go.Proofs.Ytbdaledkkbkhgaa.GlobPure

theorem MeetB_symm (A B : List UInt8) : MeetB A B = MeetB B A := by
  rw [Bool.eq_iff_iff, MeetB_iff, MeetB_iff]; exact Meet_symm A B

theorem meets_j0 (a b s : ByteArray) (ha : a.size ≤ 80) (hb : b.size ≤ 80) (hs : s.size ≤ 80) : Ev (fun k => secateurlaw21_GlobMeets.j0 k a b s (MeetB a.data.toList b.data.toList) false) true := by
  cases hm : MeetB a.data.toList b.data.toList with
  | true =>
    refine Ev.step (f := fun _ => some true) (fun k => ?_) (Ev.now _)
    simp only [secateurlaw21_GlobMeets.j0]
    rw [if_neg (by simp), if_pos trivial]
  | false =>
    refine Ev.step (f := fun k => (glob_Match.f k a s).bind fun t248 => (if t248 = true then ((glob_Match.f k b s).bind fun t249 => (some (!t249))) else (some true))) (fun k => ?_) ?_
    · simp only [secateurlaw21_GlobMeets.j0]
      rw [if_neg (by simp), if_neg (by simp)]
    · refine Ev.bind (match_ev a s (by omega) (by omega)) ?_
      cases h1 : MtB a.data.toList s.data.toList with
      | false => exact Ev.congr (fun k => if_neg (by simp)) (Ev.now _)
      | true =>
        refine Ev.congr (fun k => if_pos rfl) ?_
        refine Ev.bind (match_ev b s (by omega) (by omega)) ?_
        have h2 : MtB b.data.toList s.data.toList = false := by
          cases h3 : MtB b.data.toList s.data.toList with
          | false => rfl
          | true =>
            have := (MeetB_iff a.data.toList b.data.toList).2 ⟨s.data.toList, (MtB_iff _ _).1 h1, (MtB_iff _ _).1 h3⟩
            rw [hm] at this
            cases this
        rw [h2]
        exact Ev.now _

theorem GlobMeets : secateurlaw21_GlobMeets.Pure := by
  intro a b s _ _ _
  obtain ⟨a', ea, ha⟩ := cut_some a
  obtain ⟨b', eb, hb⟩ := cut_some b
  obtain ⟨s', es, hs⟩ := cut_some s
  refine Ev.rounds ?_
  refine Ev.congr (fun k => by
    unfold secateurlaw21_GlobMeets.f
    rw [bind_some_eq ea, bind_some_eq eb, bind_some_eq es]) ?_
  have end_ := meets_j0 a' b' s' ha hb hs
  refine Ev.bind (meets_ev a' b' (by omega) (by omega)) ?_
  refine Ev.bind live_ev ?_
  refine Ev.congr (fun k => if_pos rfl) ?_
  refine Ev.bind (refMeets_ev a' b' (by omega) (by omega)) ?_
  refine Ev.congr (fun k => if_neg (by simp)) ?_
  refine Ev.bind (meets_ev b' a' (by omega) (by omega)) ?_
  rw [MeetB_symm b'.data.toList a'.data.toList]
  refine Ev.congr (fun k => if_neg (by simp)) ?_
  refine Ev.congr (fun k => bind_some_eq (plain_eq a') _) ?_
  cases hp : PlainB a'.data.toList with
  | false => exact Ev.congr (fun k => if_neg (by simp)) end_
  | true =>
    refine Ev.congr (fun k => if_pos rfl) ?_
    refine Ev.bind (match_ev b' a' (by omega) (by omega)) ?_
    have : (MeetB a'.data.toList b'.data.toList != MtB b'.data.toList a'.data.toList) = false := by
      rw [bne_eq_false_iff_eq, Bool.eq_iff_iff, MeetB_iff, MtB_iff]
      exact Meet_plain _ _ ((PlainB_iff _).1 hp)
    rw [this]
    exact end_
end Go.Proofs.Ytbdaledkkbkhgaa.Pure
