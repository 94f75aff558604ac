/- The inner functions of package word: which texts are names, and which are classes' names. -/
import Derived.Test.YtmamaijiphdggaaDoorProg
import Derived.WalkKit
import Derived.Outline
import Derived.Deep.LoopGhost
import Derived.Lib.Hide
import Derived.BigQuiet
import Derived.Deep.QuietTactic
namespace Go.Proofs.YtmamaijiphdggaaDoor.Given
set_option linter.unusedVariables false
set_option linter.unusedSimpArgs false
open Go.RowKit Go.Lib

def letterB (c : Int) : Bool := c == 95 || c == 36 || (decide (65 ≤ c) && decide (c ≤ 90)) || (decide (97 ≤ c) && decide (c ≤ 122)) || (decide (48 ≤ c) && decide (c ≤ 57))
def classB (c : Int) : Bool := letterB c || c == 47

theorem ret_bool {a b : Bool} (h : a = b) : Ending.returned (.bool a) = .returned (.bool b) := by rw [h]
theorem letter_eq (c : Int) : letterB c = decide (c = 95 ∨ c = 36 ∨ (65 ≤ c ∧ c ≤ 90) ∨ (97 ≤ c ∧ c ≤ 122) ∨ (48 ≤ c ∧ c ≤ 57)) := by
  rw [Bool.eq_iff_iff]
  simp [letterB, or_assoc]
theorem letter_yes {c : Int} (h : c = 95 ∨ c = 36 ∨ (65 ≤ c ∧ c ≤ 90) ∨ (97 ≤ c ∧ c ≤ 122) ∨ (48 ≤ c ∧ c ≤ 57)) : true = letterB c := by rw [letter_eq]; exact (decide_eq_true h).symm
theorem letter_no {c : Int} (h : ¬ (c = 95 ∨ c = 36 ∨ (65 ≤ c ∧ c ≤ 90) ∨ (97 ≤ c ∧ c ≤ 122) ∨ (48 ≤ c ∧ c ≤ 57))) : false = letterB c := by rw [letter_eq]; exact (decide_eq_false h).symm

theorem letter_calls (c : Int) (w : World) : Calls Tryd.prog 85 #[.int .u8 c] w fun e w' => e = .returned (.bool (letterB c)) ∧ w = w' := by
  go_enter Tryd.func85, Tryd.ntmps85
  go_wp2
  all_goals
    go_ret
    refine ⟨?_, rfl⟩
    simp only [beq_iff_eq, beq_eq_false_iff_ne, ne_eq] at *
    first
    | exact ret_bool (letter_yes (by omega))
    | exact ret_bool (letter_no (by omega))

theorem class1_calls (c : Int) (w : World) : Calls Tryd.prog 84 #[.int .u8 c] w fun e w' => e = .returned (.bool (classB c)) ∧ w = w' := by
  go_enter Tryd.func84, Tryd.ntmps84
  go_wp2_with (go_at_call 85; refine (letter_calls _ _).mono ?_; rintro e w' ⟨rfl, rfl⟩)
  all_goals
    go_ret
    refine ⟨ret_bool ?_, rfl⟩
    simp [classB, *]

/-- So many bytes as a name may have, each as it may be. -/
def ofB (p : Int → Bool) (s : ByteArray) : Bool := (s.data.toList.all fun c => p (c.toNat : Int)) && (decide (1 ≤ s.size) && decide (s.size ≤ 32))
def allFrom (p : Int → Bool) (s : ByteArray) (i : Nat) : Bool := (s.data.toList.drop i).all fun c => p (c.toNat : Int)
theorem allFrom_end (p : Int → Bool) (s : ByteArray) (i : Nat) (h : s.size ≤ i) : allFrom p s i = true := by
  unfold allFrom
  rw [List.drop_of_length_le (by simpa using h)]; rfl
theorem allFrom_step (p : Int → Bool) (s : ByteArray) (i : Nat) (h : i < s.size) : allFrom p s i = (p (s[i].toNat : Int) && allFrom p s (i + 1)) := by
  unfold allFrom
  rw [List.drop_eq_getElem_cons (by simpa using h), List.all_cons]
  rfl

theorem nonempty (s : ByteArray) : (!s.toList.isEmpty) = decide (1 ≤ s.size) := by
  have hl : s.data.toList.length = s.size := by simp
  rw [ByteArray.toList_eq]
  cases h : s.data.toList with
  | nil => rw [h] at hl; simp at hl; rw [← hl]; rfl
  | cons c l => rw [h] at hl; rw [decide_eq_true (by simp at hl; omega : 1 ≤ s.size)]; rfl
theorem ofB_of (p : Int → Bool) (s : ByteArray) (i : Nat) (hi : s.size ≤ i) (hr : allFrom p s 0 = allFrom p s i) : (!s.toList.isEmpty && decide ((s.size : Int) ≤ 32)) = ofB p s := by
  have h : (s.data.toList.all fun c => p (c.toNat : Int)) = true := by
    have := hr
    rw [allFrom_end p s i hi] at this
    simpa [allFrom] using this
  unfold ofB
  rw [h, nonempty, Bool.true_and]
  congr 1
  exact decide_eq_decide.2 (by omega)

set_option maxRecDepth 100000 in
theorem of_84 (s : ByteArray) (hs : s.size ≤ 9223372036854775807) (w : World) : Calls Tryd.prog 83 #[.string s, .func (.func 84) #[] #[]] w fun e w' => e = .returned (.bool (ofB classB s)) ∧ w = w' := by
  go_enter Tryd.func83, Tryd.ntmps83
  go_wp2
  go_loopg [8] s.size (fun gk v wr => ∃ i : Nat, i ≤ s.size ∧ v = .int .i64 i ∧ gk = s.size - i ∧ Hid (allFrom classB s 0 = allFrom classB s i) ∧ w = wr)
  case atStart => exact ⟨0, Nat.zero_le _, rfl, by omega, hid rfl, rfl⟩
  case round =>
    obtain ⟨i, hi, rfl, rfl, hr, rfl⟩ := hrel
    by_cases hlt : i < s.size
    · have hst := allFrom_step classB s i hlt
      cases hp : classB (s[i].toNat : Int) with
      | true =>
        have hr2 : Hid (allFrom classB s 0 = allFrom classB s (i + 1)) := by
          have := hr.out
          rw [hst, hp, Bool.true_and] at this
          exact hid this
        clear hst hr
        go_wp2_with (go_at_call 84; refine (class1_calls _ _).mono ?_; rintro e w' ⟨rfl, rfl⟩)
        go_roundg (s.size - (i + 1))
        case rel => exact ⟨i + 1, hlt, by go_num, rfl, hr2, rfl⟩
        case measure => omega
      | false =>
        have hr2 : Hid (false = ofB classB s) := by
          have := hr.out
          rw [hst, hp, Bool.false_and] at this
          have h : (s.data.toList.all fun c => classB (c.toNat : Int)) = false := by simpa [allFrom] using this
          exact hid (by unfold ofB; rw [h]; rfl)
        clear hst hr
        go_wp2_with (go_at_call 84; refine (class1_calls _ _).mono ?_; rintro e w' ⟨rfl, rfl⟩)
        go_ret
        exact ⟨ret_bool hr2.out, rfl⟩
    · have hr2 : Hid ((!s.toList.isEmpty && decide ((s.size : Int) ≤ 32)) = ofB classB s) := hid (ofB_of classB s i (by omega) hr.out)
      clear hr
      go_wp2
      all_goals
        go_ret
        exact ⟨ret_bool (by rw [← hr2.out] <;> simp [*]), rfl⟩

set_option maxRecDepth 100000 in
theorem of_85 (s : ByteArray) (hs : s.size ≤ 9223372036854775807) (w : World) : Calls Tryd.prog 83 #[.string s, .func (.func 85) #[] #[]] w fun e w' => e = .returned (.bool (ofB letterB s)) ∧ w = w' := by
  go_enter Tryd.func83, Tryd.ntmps83
  go_wp2
  go_loopg [8] s.size (fun gk v wr => ∃ i : Nat, i ≤ s.size ∧ v = .int .i64 i ∧ gk = s.size - i ∧ Hid (allFrom letterB s 0 = allFrom letterB s i) ∧ w = wr)
  case atStart => exact ⟨0, Nat.zero_le _, rfl, by omega, hid rfl, rfl⟩
  case round =>
    obtain ⟨i, hi, rfl, rfl, hr, rfl⟩ := hrel
    by_cases hlt : i < s.size
    · have hst := allFrom_step letterB s i hlt
      cases hp : letterB (s[i].toNat : Int) with
      | true =>
        have hr2 : Hid (allFrom letterB s 0 = allFrom letterB s (i + 1)) := by
          have := hr.out
          rw [hst, hp, Bool.true_and] at this
          exact hid this
        clear hst hr
        go_wp2_with (go_at_call 85; refine (letter_calls _ _).mono ?_; rintro e w' ⟨rfl, rfl⟩)
        go_roundg (s.size - (i + 1))
        case rel => exact ⟨i + 1, hlt, by go_num, rfl, hr2, rfl⟩
        case measure => omega
      | false =>
        have hr2 : Hid (false = ofB letterB s) := by
          have := hr.out
          rw [hst, hp, Bool.false_and] at this
          have h : (s.data.toList.all fun c => letterB (c.toNat : Int)) = false := by simpa [allFrom] using this
          exact hid (by unfold ofB; rw [h]; rfl)
        clear hst hr
        go_wp2_with (go_at_call 85; refine (letter_calls _ _).mono ?_; rintro e w' ⟨rfl, rfl⟩)
        go_ret
        exact ⟨ret_bool hr2.out, rfl⟩
    · have hr2 : Hid ((!s.toList.isEmpty && decide ((s.size : Int) ≤ 32)) = ofB letterB s) := hid (ofB_of letterB s i (by omega) hr.out)
      clear hr
      go_wp2
      all_goals
        go_ret
        exact ⟨ret_bool (by rw [← hr2.out] <;> simp [*]), rfl⟩

def clinit : ByteArray := ⟨#[60, 99, 108, 105, 110, 105, 116, 62]⟩
theorem Class_calls (s : ByteArray) (hs : s.size ≤ 9223372036854775807) (w : World) : Calls Tryd.prog 55 #[.string s] w fun e w' => e = .returned (.bool (ofB classB s)) ∧ w = w' := by
  go_enter Tryd.func55, Tryd.ntmps55
  go_wp2_with (go_at_call 83; refine (of_84 _ hs _).mono ?_; rintro e w' ⟨rfl, rfl⟩)
  go_ret
  exact ⟨rfl, rfl⟩
theorem Name_calls (s : ByteArray) (hs : s.size ≤ 9223372036854775807) (w : World) : Calls Tryd.prog 61 #[.string s] w fun e w' => e = .returned (.bool (s.data.toList == clinit.data.toList || ofB letterB s)) ∧ w = w' := by
  go_enter Tryd.func61, Tryd.ntmps61
  go_wp2_with (go_at_call 83; refine (of_85 _ hs _).mono ?_; rintro e w' ⟨rfl, rfl⟩)
  all_goals
    go_ret
    refine ⟨ret_bool ?_, rfl⟩
    simp [clinit, ← ByteArray.toList_eq, *]
end Go.Proofs.YtmamaijiphdggaaDoor.Given
