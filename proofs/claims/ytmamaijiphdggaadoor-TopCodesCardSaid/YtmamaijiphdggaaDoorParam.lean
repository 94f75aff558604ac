/- The inner functions of package kind that tell which types can be. -/
import Derived.Test.YtmamaijiphdggaaDoorType
namespace Go.Proofs.YtmamaijiphdggaaDoor.Given
set_option linter.unusedVariables false
set_option linter.unusedSimpArgs false
open Go.RowKit Go.Lib

def rightT (k : Int) (c : ByteArray) : Bool := if k = 3 ∨ k = 5 then ofB classB c else (c.toList == ([] : List UInt8)) && (decide (1 ≤ k) && decide (k ≤ 5))
def paramT (k : Int) (c : ByteArray) : Bool := rightT k c && !(k == 1)

set_option maxHeartbeats 1000000 in
set_option maxRecDepth 100000 in
theorem Right_calls (k : Int) (c : ByteArray) (hs : c.size ≤ 9223372036854775807) (w : World) :
    Calls Tryd.prog 88 #[.agg #[.int .i64 k, .string c]] w fun e w' => e = .returned (.bool (rightT k c)) ∧ w' = w.alloc (.cells #[.int .i64 k, .string c] 75) := by
  by_cases h : k = 3 ∨ k = 5
  · have he : Hid (ofB classB c = rightT k c) := hid (by unfold rightT; rw [if_pos h])
    go_enter Tryd.func88, Tryd.ntmps88
    go_wp2_with (go_at_call 55; refine (Class_calls _ hs _).mono ?_; rintro e w' ⟨rfl, rfl⟩)
    all_goals first
      | (go_ret; exact ⟨ret_bool he.out, rfl⟩)
      | (exfalso; simp only [beq_iff_eq, beq_eq_false_iff_ne, ne_eq] at *; omega)
  · have he : Hid (((c.toList == ([] : List UInt8)) && (decide (1 ≤ k) && decide (k ≤ 5))) = rightT k c) := hid (by unfold rightT; rw [if_neg h])
    go_enter Tryd.func88, Tryd.ntmps88
    go_wp2_with (go_at_call 55; refine (Class_calls _ hs _).mono ?_; rintro e w' ⟨rfl, rfl⟩)
    all_goals first
      | (exfalso; simp only [beq_iff_eq, beq_eq_false_iff_ne, ne_eq] at *; omega)
      | (go_ret; refine ⟨ret_bool ?_, rfl⟩; rw [← he.out]; (first | (simp [*]; done) | (rw [decide_eq_false (by omega : ¬ 1 ≤ k)]; simp [*]; done)))

set_option maxHeartbeats 1000000 in
set_option maxRecDepth 100000 in
theorem param_calls (k : Int) (c : ByteArray) (hs : c.size ≤ 9223372036854775807) (w : World) :
    Calls Tryd.prog 103 #[.agg #[.int .i64 k, .string c]] w fun e w' => e = .returned (.bool (paramT k c)) ∧ w.grownBy w' none := by
  cases hr : rightT k c with
  | true =>
    have he : Hid ((!(k == 1)) = paramT k c) := hid (by unfold paramT; rw [hr, Bool.true_and])
    have e1 := fun w => Right_calls k c hs w
    rw [hr] at e1
    clear hr
    go_enter Tryd.func103, Tryd.ntmps103
    go_wp2_with (go_at_call 88; refine (e1 _).mono ?_; rintro e w' ⟨rfl, rfl⟩)
    go_ret
    exact ⟨ret_bool he.out, grownBy_trans (grownBy_alloc _ _ _) (grownBy_alloc _ _ _)⟩
  | false =>
    have he : Hid (false = paramT k c) := hid (by unfold paramT; rw [hr, Bool.false_and])
    have e1 := fun w => Right_calls k c hs w
    rw [hr] at e1
    clear hr
    go_enter Tryd.func103, Tryd.ntmps103
    go_wp2_with (go_at_call 88; refine (e1 _).mono ?_; rintro e w' ⟨rfl, rfl⟩)
    go_ret
    exact ⟨ret_bool he.out, grownBy_trans (grownBy_alloc _ _ _) (grownBy_alloc _ _ _)⟩
end Go.Proofs.YtmamaijiphdggaaDoor.Given
