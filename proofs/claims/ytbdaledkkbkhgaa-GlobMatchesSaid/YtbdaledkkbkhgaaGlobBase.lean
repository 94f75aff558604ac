/- What all five statements on patterns need: the cut, and the fixed calls. -/
import Derived.Test.YtbdaledkkbkhgaaPGlobx4
import Derived.Test.YtbdaledkkbkhgaaGlobMatch
namespace Go.Proofs.Ytbdaledkkbkhgaa.GlobPure
open Go.RowKit Go.Proofs.Ytbdaledkkbkhgaa.PGlob Go.Proofs.YtbdaledkkbkhgaaW.PrintWords Go.Proofs.YtbdaledkkbkhgaaW.PrintLast Go.Proofs.Ytbdaledkkbkhgaa.GlobMath

theorem cut_some (a : ByteArray) : ∃ t, secateurlaw21_cut.f a = some t ∧ t.size ≤ 80 := by
  unfold secateurlaw21_cut.f
  by_cases h : (a.size : Int) > 80
  · rw [if_pos h, if_pos (by omega), if_pos (by omega)]
    exact ⟨_, rfl, by simp; omega⟩
  · rw [if_neg h]
    exact ⟨a, rfl, by omega⟩
theorem live_ev : Ev (fun k => secateurlaw21_live.f k) true := Ev.of secateurlaw21_live.mono (k := 100) (by decide +kernel)
theorem Ev.const {α : Type} {r : α} {x : Option α} (h : x = some r) : Ev (fun _ => x) r := ⟨0, fun _ _ => h⟩
theorem bind_some_eq {α β : Type} {x : Option α} {a : α} (h : x = some a) (f : α → Option β) : x.bind f = f a := by rw [h]; rfl
end Go.Proofs.Ytbdaledkkbkhgaa.GlobPure
