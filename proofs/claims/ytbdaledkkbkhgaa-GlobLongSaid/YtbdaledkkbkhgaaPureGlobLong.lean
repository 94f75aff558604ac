/- What matches is long enough, and with a star beside it the pattern matches what goes on: what the law's printed function answers. -/
import Derived.Test.YtbdaledkkbkhgaaPGlobx7
import Derived.Test.YtbdaledkkbkhgaaGlobPlain0
namespace Go.Proofs.Ytbdaledkkbkhgaa.Pure
open Go.RowKit Go.Proofs.Ytbdaledkkbkhgaa.PGlob Go.Proofs.YtbdaledkkbkhgaaW.PrintWords Go.Proofs.YtbdaledkkbkhgaaW.PrintLast Go.Proofs.Ytbdaledkkbkhgaa.GlobMath Go.Proofs.Ytbdaledkkbkhgaa.GlobPure

theorem GlobLong : secateurlaw21_GlobLong.Pure := by
  intro p s m _ _ _
  obtain ⟨p', ep, hp⟩ := cut_some p
  obtain ⟨s', es, hs⟩ := cut_some s
  obtain ⟨m', em, hm⟩ := cut_some m
  have z : (⟨#[42]⟩ : ByteArray).size = 1 := rfl
  refine Ev.rounds ?_
  refine Ev.congr (fun k => by
    unfold secateurlaw21_GlobLong.f
    rw [bind_some_eq ep, bind_some_eq es, bind_some_eq em]) ?_
  refine Ev.bind (match_ev p' s' (by omega) (by omega)) ?_
  cases h1 : MtB p'.data.toList s'.data.toList with
  | false =>
    refine Ev.congr (fun k => if_neg (by simp)) ?_
    exact Ev.bind live_ev (Ev.now _)
  | true =>
    have h2 := (MtB_iff _ _).1 h1
    have h3 := Mt_least _ _ h2
    rw [len_of] at h3
    refine Ev.congr (fun k => if_pos rfl) ?_
    refine Ev.bind live_ev ?_
    refine Ev.congr (fun k => if_pos rfl) ?_
    refine Ev.congr (fun k => bind_some_eq (least_eq p' (by omega)) _) ?_
    refine Ev.congr (fun k => if_pos (by omega)) ?_
    refine Ev.congr (fun k => if_pos (by omega)) ?_
    refine Ev.congr (fun k => if_pos (by omega)) ?_
    refine Ev.bind (match_ev _ _ (by rw [ByteArray.size_append, z]; omega) (by rw [ByteArray.size_append]; omega)) ?_
    have h4 : MtB (p' ++ (⟨#[42]⟩ : ByteArray)).data.toList (s' ++ m').data.toList = true := by
      refine MtB_true ?_
      have e1 : (p' ++ (⟨#[42]⟩ : ByteArray)).data.toList = p'.data.toList ++ [42] := by simp
      have e2 : (s' ++ m').data.toList = s'.data.toList ++ m'.data.toList := by simp
      rw [e1, e2, Mt_snoc]
      exact ⟨_, _, rfl, h2, Acc_star _⟩
    rw [h4]
    refine Ev.congr (fun k => if_pos rfl) ?_
    refine Ev.congr (fun k => if_pos (by omega)) ?_
    refine Ev.congr (fun k => if_pos (by omega)) ?_
    refine Ev.bind (match_ev _ _ (by rw [ByteArray.size_append, z]; omega) (by rw [ByteArray.size_append]; omega)) ?_
    have h5 : MtB ((⟨#[42]⟩ : ByteArray) ++ p').data.toList (m' ++ s').data.toList = true := by
      refine MtB_true ?_
      have e1 : ((⟨#[42]⟩ : ByteArray) ++ p').data.toList = 42 :: p'.data.toList := by simp
      have e2 : (m' ++ s').data.toList = m'.data.toList ++ s'.data.toList := by simp
      rw [e1, e2, Mt_star]
      exact ⟨_, _, rfl, h2⟩
    rw [h5]
    exact Ev.now _
end Go.Proofs.Ytbdaledkkbkhgaa.Pure
