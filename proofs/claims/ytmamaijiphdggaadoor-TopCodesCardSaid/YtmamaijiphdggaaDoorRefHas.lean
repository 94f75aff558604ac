/- The inner function secateurref07.Has: whether a shape has a letter. -/
import Derived.Test.YtmamaijiphdggaaDoorInstr
namespace Go.Proofs.YtmamaijiphdggaaDoor.Given
set_option linter.unusedVariables false
set_option linter.unusedSimpArgs false
open Go.RowKit Go.Lib

def hasC (s : ByteArray) (c : Int) : Bool := s.data.toList.any fun b => (b.toNat : Int) == c
def anyFrom (s : ByteArray) (c : Int) (i : Nat) : Bool := (s.data.toList.drop i).any fun b => (b.toNat : Int) == c
theorem anyFrom_end (s : ByteArray) (c : Int) (i : Nat) (h : s.size ≤ i) : anyFrom s c i = false := by
  unfold anyFrom
  rw [List.drop_of_length_le (by simpa using h)]; rfl
theorem anyFrom_step (s : ByteArray) (c : Int) (i : Nat) (h : i < s.size) : anyFrom s c i = ((s[i].toNat : Int) == c || anyFrom s c (i + 1)) := by
  unfold anyFrom
  rw [List.drop_eq_getElem_cons (by simpa using h), List.any_cons]
  rfl
set_option maxRecDepth 100000 in
theorem Has_calls (s : ByteArray) (hs : s.size ≤ 9223372036854775806) (c : Int) (w : World) : Calls Tryd.prog 32 #[.string s, .int .u8 c] w fun e w' => e = .returned (.bool (hasC s c)) ∧ w = w' := by
  go_enter Tryd.func32, Tryd.ntmps32
  go_wp2
  go_loopg [5] s.size (fun gk v wr => ∃ i : Nat, i ≤ s.size ∧ v = .int .i64 i ∧ gk = s.size - i ∧ Hid (hasC s c = anyFrom s c i) ∧ w = wr)
  case atStart => exact ⟨0, Nat.zero_le _, rfl, by omega, hid rfl, rfl⟩
  case round =>
    obtain ⟨i, hi, rfl, rfl, hr, rfl⟩ := hrel
    by_cases hlt : i < s.size
    · have hst := anyFrom_step s c i hlt
      cases hp : ((s[i].toNat : Int) == c) with
      | true =>
        have hr2 : Hid (true = hasC s c) := by
          have := hr.out
          rw [hst, hp, Bool.true_or] at this
          exact hid this.symm
        clear hst hr
        go_wp2
        go_ret
        exact ⟨ret_bool hr2.out, rfl⟩
      | false =>
        have hr2 : Hid (hasC s c = anyFrom s c (i + 1)) := by
          have := hr.out
          rw [hst, hp, Bool.false_or] at this
          exact hid this
        clear hst hr
        go_wp2
        go_roundg (s.size - (i + 1))
        case rel => exact ⟨i + 1, hlt, by go_num, rfl, hr2, rfl⟩
        case measure => omega
    · have hr2 : Hid (false = hasC s c) := by
        have := hr.out
        rw [anyFrom_end s c i (by omega)] at this
        exact hid this.symm
      clear hr
      go_wp2
      go_ret
      exact ⟨ret_bool hr2.out, rfl⟩
end Go.Proofs.YtmamaijiphdggaaDoor.Given
