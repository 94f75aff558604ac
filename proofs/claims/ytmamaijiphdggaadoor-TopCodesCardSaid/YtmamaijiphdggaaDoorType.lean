/- The inner function of package kind that reads any type. -/
import Derived.Test.YtmamaijiphdggaaDoorArr
namespace Go.Proofs.YtmamaijiphdggaaDoor.Given
set_option linter.unusedVariables false
set_option linter.unusedSimpArgs false
open Go.RowKit Go.Lib

theorem member_kind {s : ByteArray} {i : Nat} {t : Int × ByteArray × Nat} (h : plainB s i = some t) : 0 ≤ t.1 ∧ t.1 ≤ 5 := by
  unfold plainB at h
  split at h
  · cases h; simp
  · split at h
    · cases h; simp
    · split at h
      · split at h
        · cases h; simp
        · cases h
      · cases h
theorem array_calls (s : ByteArray) (hs : s.size ≤ 140737488351232) (i : Nat) (g : Nat) (w : World) (hS : Scan w g s i) :
    Calls Tryd.prog 114 #[.pointer (some ⟨g, 0, none⟩)] w (Told s g w ((memberB s i).map fun t => (t.1 + 2, t.2.1, t.2.2))) := by
  unfold memberB
  cases h1 : seesB s i 73 with
  | true =>
    rw [Bool.true_or, if_pos rfl]
    cases hp : plainB s i with
    | none => exact array_I_no s hs i h1 hp g w hS
    | some t =>
      obtain ⟨k, c, j⟩ := t
      exact array_I s hs i h1 hp (member_kind hp).1 (member_kind hp).2 g w hS
  | false =>
    cases h2 : seesB s i 76 with
    | true =>
      rw [Bool.false_or, if_pos rfl]
      cases hp : plainB s i with
      | none => exact array_L_no s hs i h1 h2 hp g w hS
      | some t =>
        obtain ⟨k, c, j⟩ := t
        exact array_L s hs i h1 h2 hp (member_kind hp).1 (member_kind hp).2 g w hS
    | false => exact array_no s hs i h1 h2 g w hS
theorem array_some {s : ByteArray} {i : Nat} {k : Int} {c : ByteArray} {j : Nat} (hp : (memberB s i).map (fun t => (t.1 + 2, t.2.1, t.2.2)) = some (k, c, j)) (hs : s.size ≤ 140737488351232) (g : Nat) (w : World) (hS : Scan w g s i) :
    Calls Tryd.prog 114 #[.pointer (some ⟨g, 0, none⟩)] w fun e w' => e = .returned (.agg #[.int .i64 k, .string c]) ∧ Scan w' g s (j : Int) ∧ w.grownBy w' (some g) := by
  have h := array_calls s hs i g w hS
  rw [hp] at h
  exact h
theorem array_none {s : ByteArray} {i : Nat} (hp : (memberB s i).map (fun t => (t.1 + 2, t.2.1, t.2.2)) = none) (hs : s.size ≤ 140737488351232) (g : Nat) (w : World) (hS : Scan w g s i) :
    Calls Tryd.prog 114 #[.pointer (some ⟨g, 0, none⟩)] w fun e w' => e = gaveUp 1 ∧ w.grownBy w' (some g) := by
  have h := array_calls s hs i g w hS
  rw [hp] at h
  exact h

set_option maxHeartbeats 1000000 in
set_option maxRecDepth 100000 in
theorem one_arr (s : ByteArray) (hs : s.size ≤ 140737488351232) (i : Nat) (hi : i < s.size) (hv : (s[i].toNat : Int) = 91) {k : Int} {c : ByteArray} {j : Nat} (hp : (memberB s (i + 1)).map (fun t => (t.1 + 2, t.2.1, t.2.2)) = some (k, c, j)) (g : Nat) (w : World) (hS : Scan w g s i) :
    Calls Tryd.prog 102 #[.pointer (some ⟨g, 0, none⟩)] w fun e w' => e = .returned (.agg #[.int .i64 k, .string c]) ∧ Scan w' g s (j : Int) ∧ w.grownBy w' (some g) := by
  have hne : w.heap.size ≠ g := by have := hS.lt; omega
  have e3 := fun w0 h => array_some hp hs g w0 h
  clear hp
  go_enter Tryd.func102, Tryd.ntmps102
  go_wp2_with (first
    | (go_at_call 100; refine (byte_yes s hs i hi g _ (hS.alloc _)).mono ?_; rintro e w' ⟨rfl, hS1, hg1⟩; rw [hv])
    | (go_at_call 114; with_reducible refine (e3 _ hS1).mono ?_; rintro e w'' ⟨rfl, hS2, hg2⟩
       replace hg1 := grownBy_trans hg1 hg2
       have hB := (Box.new w 0 ⟨#[]⟩).grown hg1 hne
       have b0 := hB.c0
       have b1 := hB.c1
       have bf0 := hB.fz 0
       have bf1 := hB.fz 1))
  have hB2 := hB.set2 k c
  have r0 := hB2.c0
  have r1 := hB2.c1
  try simp only [Exit.inBlock, Exit.then]
  refine bodyPost_ret (v := .agg #[.int .i64 k, .string c]) (by simp [results, Tryd.results102, go_sem, r0, r1]) rfl ?_
  exact ⟨rfl, (hS2.setNe _ _ (Ne.symm hne)).setNe _ _ (Ne.symm hne), grownBy_new (grownBy_new (grownBy_trans (grownBy_alloc _ _ _) hg1) _ _ (Nat.le_refl _)) _ _ (Nat.le_refl _)⟩
set_option maxHeartbeats 1000000 in
set_option maxRecDepth 100000 in
theorem one_arr_no (s : ByteArray) (hs : s.size ≤ 140737488351232) (i : Nat) (hi : i < s.size) (hv : (s[i].toNat : Int) = 91) (hp : (memberB s (i + 1)).map (fun t => (t.1 + 2, t.2.1, t.2.2)) = none) (g : Nat) (w : World) (hS : Scan w g s i) :
    Calls Tryd.prog 102 #[.pointer (some ⟨g, 0, none⟩)] w fun e w' => e = gaveUp 1 ∧ w.grownBy w' (some g) := by
  have e3 := fun w0 h => array_none hp hs g w0 h
  clear hp
  go_enter Tryd.func102, Tryd.ntmps102
  go_wp2_with (first
    | (go_at_call 100; refine (byte_yes s hs i hi g _ (hS.alloc _)).mono ?_; rintro e w' ⟨rfl, hS1, hg1⟩; rw [hv])
    | (go_at_call 114; with_reducible refine (e3 _ hS1).mono ?_; rintro e w'' ⟨rfl, hg2⟩))
  exact ⟨rfl, rfl, grownBy_trans (grownBy_trans (grownBy_alloc _ _ _) hg1) hg2⟩

theorem one_calls (s : ByteArray) (hs : s.size ≤ 140737488351232) (i : Nat) (g : Nat) (w : World) (hS : Scan w g s i) :
    Calls Tryd.prog 102 #[.pointer (some ⟨g, 0, none⟩)] w (Told s g w (oneB s i)) := by
  unfold oneB
  cases h : seesB s i 91 with
  | false =>
    rw [if_neg (by simp)]
    exact plain_calls s hs i h g w hS
  | true =>
    rw [if_pos rfl]
    obtain ⟨hi, hv⟩ := seesB_lt h
    cases hp : (memberB s (i + 1)).map (fun t => (t.1 + 2, t.2.1, t.2.2)) with
    | none => exact one_arr_no s hs i hi hv hp g w hS
    | some t =>
      obtain ⟨k, c, j⟩ := t
      exact one_arr s hs i hi hv hp g w hS
theorem one_some {s : ByteArray} {i : Nat} {k : Int} {c : ByteArray} {j : Nat} (hp : oneB s i = some (k, c, j)) (hs : s.size ≤ 140737488351232) (g : Nat) (w : World) (hS : Scan w g s i) :
    Calls Tryd.prog 102 #[.pointer (some ⟨g, 0, none⟩)] w fun e w' => e = .returned (.agg #[.int .i64 k, .string c]) ∧ Scan w' g s (j : Int) ∧ w.grownBy w' (some g) := by
  have h := one_calls s hs i g w hS
  rw [hp] at h
  exact h
theorem one_none {s : ByteArray} {i : Nat} (hp : oneB s i = none) (hs : s.size ≤ 140737488351232) (g : Nat) (w : World) (hS : Scan w g s i) :
    Calls Tryd.prog 102 #[.pointer (some ⟨g, 0, none⟩)] w fun e w' => e = gaveUp 1 ∧ w.grownBy w' (some g) := by
  have h := one_calls s hs i g w hS
  rw [hp] at h
  exact h
end Go.Proofs.YtmamaijiphdggaaDoor.Given
