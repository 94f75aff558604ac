/- An instruction among the arguments, opened. -/
import Derived.Test.YtmamaijiphdggaaDoorLaid
import Derived.Test.YtmamaijiphdggaaDoorMoreVocab
import Derived.Test.YtmamaijiphdggaaDoorInstr
import Derived.Lib.SmallJoins
import Derived.OpenShut
import Derived.ChangeSlices
namespace Go.Proofs.YtmamaijiphdggaaDoor.Given
open Go.ChangeShapes Go.WideShapes Go.RowKit Go.Lib
open Go.Proofs.YtmamaijiphdggaaDoorW.PrintWords
set_option linter.unusedVariables false

theorem list9 {α : Type} {l : List α} (h : l.length = 9) : ∃ c0 c1 c2 c3 c4 c5 c6 c7 c8, l = [c0, c1, c2, c3, c4, c5, c6, c7, c8] := by
  match l, h with
  | [c0, c1, c2, c3, c4, c5, c6, c7, c8], _ => exact ⟨c0, c1, c2, c3, c4, c5, c6, c7, c8, rfl⟩
theorem ints_of_trod {H : Type} {enc : TypeId × Value → H} {W : World} {base : Nat} {held : Bool} {fuel : Nat} {c : Value} {x : DataW H × List MemPlace} (h : DataW.trod enc Tryd.prog W base (fun _ => true) held fuel 41 [c] = some x) :
    ∃ (A : Option Addr) (l : List Int) (cap : Nat), c = .slice A l.length cap ∧ Kd.C (Kd.int .i64) W A l.length l ∧ l.length ≤ cap := by
  rcases open_ints Tryd.underlying41 Tryd.underlying3 (by kernel_rfl) h with ⟨hcs, _⟩ | ⟨a, len, cap, zs, hcs, _, hl, hm, hz, _, hcell, _⟩
  · simp at hcs
    exact ⟨none, [], 0, hcs, Kd.C_nil _ _, Nat.le_refl _⟩
  · simp at hcs
    obtain ⟨l, e, hr, _, _, hc⟩ := ReadsInt.ofRowC (w := W) (a := some a) (len := len) (cap := cap) (zs := zs) (k := .i64) (.inr ⟨a, rfl, hl, hm, by simpa using hz, hcell, by assumption⟩)
    subst e
    exact ⟨some a, l, cap, hcs, Kd.C_of_reads (d := (0 : Int)) (h1 := fun _ => rfl) hr, hc⟩
set_option maxRecDepth 100000 in
theorem open_instr {H : Type} {enc : TypeId × Value → H} {W : World} {base b0 : Nat} {held : Bool} {r : Reach} {v : Value} {d : DataW H} {p : List MemPlace}
    (hv : Value.okWide Tryd.prog W r b0 44 v) (h : DataW.Trod enc Tryd.prog W base (fun _ => true) held 44 v d p) :
    ∃ (o a b c k : Int) (cl nm ds : ByteArray) (A : Option Addr) (l : List Int) (cap : Nat), v = insV o a b c k cl nm ds A l.length cap ∧ Kd.C (Kd.int .i64) W A l.length l ∧ l.length ≤ cap := by
  obtain ⟨cs, rfl, hsz⟩ := okWide_struct Tryd.underlying44 hv
  obtain ⟨fuel, hf⟩ := h
  obtain ⟨xs, n, _, _, hl, hlen, hfi⟩ := DataW.trod_struct Tryd.underlying44 hf
  have hc9 : Tryd.prog.cellsOf 44 = 9 := by kernel_rfl
  obtain ⟨cl⟩ := cs
  have hl2 : cl.length = 9 := by
    have : (Array.mk cl).size = 9 := hsz.trans hc9
    simpa using this
  obtain ⟨c0, c1, c2, c3, c4, c5, c6, c7, c8, rfl⟩ := list9 hl2
  obtain ⟨y0, y1, y2, y3, y4, y5, y6, y7, y8, rfl⟩ := list9 (l := xs) (by simpa using hlen)
  have k31 : Tryd.prog.cellsOf 31 = 1 := by kernel_rfl
  have k3 : Tryd.prog.cellsOf 3 = 1 := by kernel_rfl
  have k2 : Tryd.prog.cellsOf 2 = 1 := by kernel_rfl
  have k9 : Tryd.prog.cellsOf 9 = 1 := by kernel_rfl
  have k41 : Tryd.prog.cellsOf 41 = 1 := by kernel_rfl
  have h0 : DataW.trod enc Tryd.prog W base (fun _ => true) held n 31 [c0] = some y0 := by simpa [Value.cells, k31] using hfi 0 _ rfl
  have h1 : DataW.trod enc Tryd.prog W base (fun _ => true) held n 3 [c1] = some y1 := by simpa [Value.cells, k3] using hfi 1 _ rfl
  have h2 : DataW.trod enc Tryd.prog W base (fun _ => true) held n 3 [c2] = some y2 := by simpa [Value.cells, k3] using hfi 2 _ rfl
  have h3 : DataW.trod enc Tryd.prog W base (fun _ => true) held n 3 [c3] = some y3 := by simpa [Value.cells, k3] using hfi 3 _ rfl
  have h4 : DataW.trod enc Tryd.prog W base (fun _ => true) held n 2 [c4] = some y4 := by simpa [Value.cells, k2] using hfi 4 _ rfl
  have h5 : DataW.trod enc Tryd.prog W base (fun _ => true) held n 9 [c5] = some y5 := by simpa [Value.cells, k9] using hfi 5 _ rfl
  have h6 : DataW.trod enc Tryd.prog W base (fun _ => true) held n 9 [c6] = some y6 := by simpa [Value.cells, k9] using hfi 6 _ rfl
  have h7 : DataW.trod enc Tryd.prog W base (fun _ => true) held n 9 [c7] = some y7 := by simpa [Value.cells, k9] using hfi 7 _ rfl
  have h8 : DataW.trod enc Tryd.prog W base (fun _ => true) held n 41 [c8] = some y8 := by simpa [Value.cells, k41] using hfi 8 _ rfl
  obtain ⟨o, e0, _, _⟩ := DataW.trod_int Tryd.underlying31 h0
  obtain ⟨a, e1, _, _⟩ := DataW.trod_int Tryd.underlying3 h1
  obtain ⟨b, e2, _, _⟩ := DataW.trod_int Tryd.underlying3 h2
  obtain ⟨c, e3, _, _⟩ := DataW.trod_int Tryd.underlying3 h3
  obtain ⟨k, e4, _, _⟩ := DataW.trod_int Tryd.underlying2 h4
  obtain ⟨s5, e5, _, _⟩ := DataW.trod_string Tryd.underlying9 h5
  obtain ⟨s6, e6, _, _⟩ := DataW.trod_string Tryd.underlying9 h6
  obtain ⟨s7, e7, _, _⟩ := DataW.trod_string Tryd.underlying9 h7
  obtain ⟨A, l, cap, e8, hC, hle⟩ := ints_of_trod h8
  simp only [List.cons.injEq, and_true] at e0 e1 e2 e3 e4 e5 e6 e7
  subst e0 e1 e2 e3 e4 e5 e6 e7 e8
  exact ⟨o, a, b, c, k, s5, s6, s7, A, l, cap, rfl, hC, hle⟩
end Go.Proofs.YtmamaijiphdggaaDoor.Given
