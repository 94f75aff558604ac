/- norm.byField, byClass. -/
import Derived.Test.YtmamaijiphdggaaDoorRise
namespace Go.Proofs.YtmamaijiphdggaaDoor.Given
set_option linter.unusedVariables false
set_option linter.unusedSimpArgs false
open Go.RowKit Go.Lib
open Go.Proofs.YtmamaijiphdggaaDoorW.PrintWords
/-- What strings.Compare keeps to. -/
def Cmp (f : ByteArray → ByteArray → Int) : Prop := ∀ (x y : ByteArray) (w : World), Calls Tryd.prog 66 #[.string x, .string y] w fun e w' => e = .returned (.int .i64 (f x y)) ∧ w' = w
theorem byField_calls {f : ByteArray → ByteArray → Int} (hf : Cmp f) (x y : S83) (w : World) :
    Calls Tryd.prog 68 #[T83V x, T83V y] w fun e w' => e = .returned (.int .i64 (f x.f0 y.f0)) ∧ Below w.heap.size w w' := by
  have HF := hid hf
  go_enter Tryd.func68, Tryd.ntmps68
  go_wp2_with (go_at_call 66; refine (HF.out _ _ _).mono ?_; rintro e w2 ⟨rfl, rfl⟩)
  go_ret
  exact ⟨rfl, ((Below.refl _ _).alloc (Nat.le_refl _) _).alloc (by simp) _⟩
theorem byClass_calls {f : ByteArray → ByteArray → Int} (hf : Cmp f) (x y : S37) (A4 : Option Addr) (c4 : Nat) (A5 : Option Addr) (c5 : Nat) (A6 : Option Addr) (c6 : Nat) (B4 : Option Addr) (d4 : Nat) (B5 : Option Addr) (d5 : Nat) (B6 : Option Addr) (d6 : Nat) (w : World) :
    Calls Tryd.prog 63 #[T37V x A4 c4 A5 c5 A6 c6, T37V y B4 d4 B5 d5 B6 d6] w fun e w' => e = .returned (.int .i64 (f x.f0 y.f0)) ∧ Below w.heap.size w w' := by
  have HF := hid hf
  go_enter Tryd.func63, Tryd.ntmps63
  go_wp2_with (go_at_call 66; refine (HF.out _ _ _).mono ?_; rintro e w2 ⟨rfl, rfl⟩)
  go_ret
  exact ⟨rfl, ((Below.refl _ _).alloc (Nat.le_refl _) _).alloc (by simp) _⟩
end Go.Proofs.YtmamaijiphdggaaDoor.Given
