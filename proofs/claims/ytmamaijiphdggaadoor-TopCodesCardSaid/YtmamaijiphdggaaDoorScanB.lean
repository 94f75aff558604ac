/- The inner functions of package kind that read a class, a type, an array. -/
import Derived.Test.YtmamaijiphdggaaDoorScan
namespace Go.Proofs.YtmamaijiphdggaaDoor.Given
set_option linter.unusedVariables false
set_option linter.unusedSimpArgs false
open Go.RowKit Go.Lib

theorem cut_tail (s : ByteArray) (hs : s.size ≤ 140737488351232) (i : Nat) (hi : i ≤ s.size) {b : Bool} (hb : decide (0 ≤ semi (tailOf s i)) = b) {n : ByteArray} (hn : nameOf s i = n) {r : ByteArray} (hr : cutB (tailOf s i) = r) (w : World) :
    Calls Tryd.prog 118 #[.string (s.extract i s.size), .string ⟨#[59]⟩] w fun e w' => e = .returned (.tuple #[.string n, .string r, .bool b]) ∧ ∃ n, w' = w.drewN n := by
  subst hb hn hr
  exact cut_calls (tailOf s i) (by rw [tail_size]; omega) w
theorem class_of (s : ByteArray) (hs : s.size ≤ 9223372036854775807) {b : Bool} (hb : ofB classB s = b) (w : World) : Calls Tryd.prog 55 #[.string s] w fun e w' => e = .returned (.bool b) ∧ w = w' := by
  subst hb
  exact Class_calls s hs w

set_option maxHeartbeats 1000000 in
set_option maxRecDepth 100000 in
theorem class_yes (s : ByteArray) (hs : s.size ≤ 140737488351232) (i : Nat) (hi : i ≤ s.size) (hok : okOf s i = true) (g : Nat) (w : World) (hS : Scan w g s i) :
    Calls Tryd.prog 113 #[.pointer (some ⟨g, 0, none⟩)] w fun e w' => e = .returned (.string (nameOf s i)) ∧ Scan w' g s ((i + (nameOf s i).size + 1 : Nat) : Int) ∧ w.grownBy w' (some g) := by
  have h0 := hS.c0
  have h1 := hS.c1
  have hf := hS.fz 1
  obtain ⟨z1, z2⟩ := okOf_sizes s i hi hok
  have q1 : (0 : Int) ≤ (i : Int) := by omega
  have q2 : (i : Int) ≤ (s.size : Int) := by omega
  have hok' : Hid (decide (0 ≤ semi (tailOf s i)) = true ∧ ofB classB (nameOf s i) = true) := hid (by unfold okOf at hok; rwa [Bool.and_eq_true] at hok)
  have hcut := fun w => cut_tail s hs i hi hok'.out.1 rfl rfl w
  have hcl := fun w => class_of (nameOf s i) (by omega) hok'.out.2 w
  have hz : (s.size : Int) - ((cutB (tailOf s i)).size : Int) = ((i + (nameOf s i).size + 1 : Nat) : Int) := by omega
  have hz1 : (-9223372036854775808 : Int) ≤ (s.size : Int) - ((cutB (tailOf s i)).size : Int) := by omega
  have hz2 : (s.size : Int) - ((cutB (tailOf s i)).size : Int) < 9223372036854775808 := by omega
  clear hok z1 z2
  generalize nameOf s i = nm at *
  generalize cutB (tailOf s i) = rs at *
  go_enter Tryd.func113, Tryd.ntmps113
  go_wp2
  go_quiet ((go_at_call 118; exact Calls.quiet_of (hcut _)))
  go_wp2_with (first
    | (go_at_call 55; refine (hcl _).mono ?_; rintro e w' ⟨rfl, rfl⟩)
    | (go_at_call 99; refine (unless_ok _ _).mono ?_; rintro e w' ⟨rfl, rfl⟩))
  go_ret
  exact ⟨rfl, (hS.drewN _).set ((i : Int) + (nm.size : Int) + 1), grownBy_trans (grownBy_drewN _ _ _) (grownBy_set _ _ _ _)⟩

set_option maxHeartbeats 1000000 in
set_option maxRecDepth 100000 in
theorem class_no (s : ByteArray) (hs : s.size ≤ 140737488351232) (i : Nat) (hi : i ≤ s.size) (hok : okOf s i = false) (g : Nat) (w : World) (hS : Scan w g s i) :
    Calls Tryd.prog 113 #[.pointer (some ⟨g, 0, none⟩)] w fun e w' => e = gaveUp 1 ∧ w.grownBy w' (some g) := by
  have h0 := hS.c0
  have h1 := hS.c1
  have q1 : (0 : Int) ≤ (i : Int) := by omega
  have q2 : (i : Int) ≤ (s.size : Int) := by omega
  have hnm : (nameOf s i).size ≤ 9223372036854775807 := by
    have := tail_size s i
    unfold nameOf cutA
    split
    · simp; omega
    · omega
  cases hb : decide (0 ≤ semi (tailOf s i)) with
  | false =>
    have hcut := fun w => cut_tail s hs i hi hb rfl rfl w
    clear hok hb
    generalize nameOf s i = nm at *
    generalize cutB (tailOf s i) = rs at *
    go_enter Tryd.func113, Tryd.ntmps113
    go_wp2
    go_quiet ((go_at_call 118; exact Calls.quiet_of (hcut _)))
    go_wp2_with (first
      | (go_at_call 99; refine (unless_no _ _).mono ?_; rintro e w' ⟨rfl, rfl⟩))
    exact ⟨rfl, rfl, grownBy_drewN _ _ _⟩
  | true =>
    have hcut := fun w => cut_tail s hs i hi hb rfl rfl w
    have hcb : ofB classB (nameOf s i) = false := by unfold okOf at hok; rwa [hb, Bool.true_and] at hok
    have hcl := fun w => class_of (nameOf s i) hnm hcb w
    clear hok hb hcb
    generalize nameOf s i = nm at *
    generalize cutB (tailOf s i) = rs at *
    go_enter Tryd.func113, Tryd.ntmps113
    go_wp2
    go_quiet ((go_at_call 118; exact Calls.quiet_of (hcut _)))
    go_wp2_with (first
      | (go_at_call 55; refine (hcl _).mono ?_; rintro e w' ⟨rfl, rfl⟩)
      | (go_at_call 99; refine (unless_no _ _).mono ?_; rintro e w' ⟨rfl, rfl⟩))
    exact ⟨rfl, rfl, grownBy_drewN _ _ _⟩

end Go.Proofs.YtmamaijiphdggaaDoor.Given
