/- What kind.Split reads, in plain words. -/
import Derived.Test.YtmamaijiphdggaaDoorCaught
namespace Go.Proofs.YtmamaijiphdggaaDoor.Given
set_option linter.unusedVariables false
set_option linter.unusedSimpArgs false
open Go.RowKit Go.Lib

/-- The types from a place on to the closing mark, and where that stands. -/
def paramsB (s : ByteArray) : Nat → Nat → Option (List (Int × ByteArray) × Nat)
  | 0, _ => none
  | n + 1, i => if seesB s i 41 then some ([], i) else
    match oneB s i with
    | none => none
    | some t => if paramT t.1 t.2.1 then (paramsB s n t.2.2).map fun r => ((t.1, t.2.1) :: r.1, r.2) else none
/-- The type behind the closing mark, and what there may be. -/
def closeB (s : ByteArray) (l : List (Int × ByteArray)) : Option (Int × ByteArray × Nat) → Except Int (List (Int × ByteArray) × Int × ByteArray)
  | none => .error 1
  | some t => if t.2.2 = s.size then (if l.length ≤ 8 then .ok (l, t.1, t.2.1) else .error 3) else .error 1
def afterB (s : ByteArray) : Option (List (Int × ByteArray) × Nat) → Except Int (List (Int × ByteArray) × Int × ByteArray)
  | none => .error 1
  | some r => closeB s r.1 (oneB s (r.2 + 1))
def bodyB (s : ByteArray) : Except Int (List (Int × ByteArray) × Int × ByteArray) :=
  if seesB s 0 40 then afterB s (paramsB s (s.size + 1) 1) else .error 1
def splitB (s : ByteArray) : List (Int × ByteArray) × Int × ByteArray × Int :=
  if 64 < s.size then ([], 0, ⟨#[]⟩, 3) else
  match bodyB s with
  | .error n => ([], 0, ⟨#[]⟩, n)
  | .ok r => (r.1, r.2.1, r.2.2, 0)

theorem plainB_lt {s : ByteArray} {i : Nat} {t : Int × ByteArray × Nat} (h : plainB s i = some t) : i < t.2.2 ∧ t.2.2 ≤ s.size := by
  unfold plainB at h
  split at h
  · rename_i h1
    obtain ⟨hi, _⟩ := seesB_lt h1
    cases h
    exact ⟨Nat.lt_succ_self _, hi⟩
  · split at h
    · rename_i h1
      obtain ⟨hi, _⟩ := seesB_lt h1
      cases h
      exact ⟨Nat.lt_succ_self _, hi⟩
    · split at h
      · rename_i h1
        obtain ⟨hi, _⟩ := seesB_lt h1
        split at h
        · rename_i hok
          have := okOf_sizes s (i + 1) hi hok
          cases h
          simp only
          omega
        · cases h
      · cases h
theorem oneB_lt {s : ByteArray} {i : Nat} {t : Int × ByteArray × Nat} (h : oneB s i = some t) : i < t.2.2 ∧ t.2.2 ≤ s.size := by
  unfold oneB at h
  split at h
  · unfold memberB at h
    split at h
    · cases hp : plainB s (i + 1) with
      | none => rw [hp] at h; cases h
      | some t' =>
        rw [hp] at h
        have := plainB_lt hp
        cases h
        simp only
        omega
    · cases h
  · exact plainB_lt h
theorem nameOf_le (s : ByteArray) (i : Nat) : (nameOf s i).size ≤ s.size := by
  have := tail_size s i
  unfold nameOf cutA
  split
  · simp; omega
  · omega
theorem plainB_name {s : ByteArray} {i : Nat} {t : Int × ByteArray × Nat} (h : plainB s i = some t) : t.2.1.size ≤ s.size := by
  unfold plainB at h
  split at h
  · cases h; exact Nat.zero_le _
  · split at h
    · cases h; exact Nat.zero_le _
    · split at h
      · split at h
        · cases h; exact nameOf_le s _
        · cases h
      · cases h
theorem oneB_name {s : ByteArray} {i : Nat} {t : Int × ByteArray × Nat} (h : oneB s i = some t) : t.2.1.size ≤ s.size := by
  unfold oneB at h
  split at h
  · unfold memberB at h
    split at h
    · cases hp : plainB s (i + 1) with
      | none => rw [hp] at h; cases h
      | some t' =>
        rw [hp] at h
        have := plainB_name hp
        cases h
        exact this
    · cases h
  · exact plainB_name h
theorem paramsB_next {s : ByteArray} {n i j : Nat} {k : Int} {q : ByteArray} (h41 : seesB s i 41 = false) (ho : oneB s i = some (k, q, j)) (hp : paramT k q = true) :
    paramsB s (n + 1) i = (paramsB s n j).map fun r => ((k, q) :: r.1, r.2) := by
  have h : paramsB s (n + 1) i = if seesB s i 41 then some ([], i) else
    match oneB s i with
    | none => none
    | some t => if paramT t.1 t.2.1 then (paramsB s n t.2.2).map fun r => ((t.1, t.2.1) :: r.1, r.2) else none := rfl
  rw [h, if_neg (by rw [h41]; simp), ho]
  simp only
  rw [if_pos hp]
theorem paramsB_push {s : ByteArray} {n i j : Nat} {k : Int} {q : ByteArray} (acc : List (Int × ByteArray)) (h41 : seesB s i 41 = false) (ho : oneB s i = some (k, q, j)) (hp : paramT k q = true) :
    (paramsB s (n + 1) i).map (fun r => (acc ++ r.1, r.2)) = (paramsB s n j).map fun r => ((acc ++ [(k, q)]) ++ r.1, r.2) := by
  rw [paramsB_next h41 ho hp]
  cases paramsB s n j with
  | none => rfl
  | some r => simp
end Go.Proofs.YtmamaijiphdggaaDoor.Given
