/- The inner functions of package kind that read an array's type, and any type. -/
import Derived.Test.YtmamaijiphdggaaDoorOne
namespace Go.Proofs.YtmamaijiphdggaaDoor.Given
set_option linter.unusedVariables false
set_option linter.unusedSimpArgs false
open Go.RowKit Go.Lib

def seesB (s : ByteArray) (i : Nat) (b : Int) : Bool := if h : i < s.size then (s[i].toNat : Int) == b else false
/-- A type that is no array, at a place: its kind, its class, the place behind. -/
def plainB (s : ByteArray) (i : Nat) : Option (Int × ByteArray × Nat) :=
  if seesB s i 86 then some (1, ⟨#[]⟩, i + 1)
  else if seesB s i 73 then some (2, ⟨#[]⟩, i + 1)
  else if seesB s i 76 then (if okOf s (i + 1) then some (3, nameOf s (i + 1), i + 1 + (nameOf s (i + 1)).size + 1) else none)
  else none
/-- What may stand behind the mark of an array. -/
def memberB (s : ByteArray) (i : Nat) : Option (Int × ByteArray × Nat) := if seesB s i 73 || seesB s i 76 then plainB s i else none
/-- A type at a place. -/
def oneB (s : ByteArray) (i : Nat) : Option (Int × ByteArray × Nat) :=
  if seesB s i 91 then (memberB s (i + 1)).map fun t => (t.1 + 2, t.2.1, t.2.2) else plainB s i

theorem seesB_lt {s : ByteArray} {i : Nat} {b : Int} (h : seesB s i b = true) : ∃ hi : i < s.size, (s[i].toNat : Int) = b := by
  unfold seesB at h
  split at h
  · exact ⟨by assumption, beq_iff_eq.1 h⟩
  · cases h
theorem seesB_of {s : ByteArray} {i : Nat} (hi : i < s.size) (b : Int) : seesB s i b = ((s[i].toNat : Int) == b) := by unfold seesB; rw [dif_pos hi]
theorem seesB_not {s : ByteArray} {i : Nat} (hi : ¬ i < s.size) (b : Int) : seesB s i b = false := by unfold seesB; rw [dif_neg hi]

def Told (s : ByteArray) (g : Nat) (w : World) : Option (Int × ByteArray × Nat) → Ending → World → Prop
  | some t => fun e w' => e = .returned (tyV t.1 t.2.1) ∧ Scan w' g s (t.2.2 : Int) ∧ w.grownBy w' (some g)
  | none => fun e w' => e = gaveUp 1 ∧ w.grownBy w' (some g)

theorem plain_calls (s : ByteArray) (hs : s.size ≤ 140737488351232) (i : Nat) (h91 : seesB s i 91 = false) (g : Nat) (w : World) (hS : Scan w g s i) :
    Calls Tryd.prog 102 #[.pointer (some ⟨g, 0, none⟩)] w (Told s g w (plainB s i)) := by
  by_cases hi : i < s.size
  · unfold plainB
    rw [seesB_of hi] at h91
    rw [seesB_of hi, seesB_of hi, seesB_of hi]
    by_cases h1 : (s[i].toNat : Int) = 86
    · rw [if_pos (beq_iff_eq.2 h1)]
      exact one_V s hs i hi h1 g w hS
    · rw [if_neg (by simpa using h1)]
      by_cases h2 : (s[i].toNat : Int) = 73
      · rw [if_pos (beq_iff_eq.2 h2)]
        exact one_I s hs i hi h2 g w hS
      · rw [if_neg (by simpa using h2)]
        by_cases h3 : (s[i].toNat : Int) = 76
        · rw [if_pos (beq_iff_eq.2 h3)]
          cases hok : okOf s (i + 1) with
          | true => exact one_L s hs i hi h3 hok g w hS
          | false => exact one_L_no s hs i hi h3 hok g w hS
        · rw [if_neg (by simpa using h3)]
          exact one_other s hs i hi h1 h2 h3 (beq_eq_false_iff_ne.1 h91) g w hS
  · unfold plainB
    rw [seesB_not hi, seesB_not hi, seesB_not hi]
    exact one_end s hs i hi g w hS

theorem sees_of (s : ByteArray) (hs : s.size ≤ 140737488351232) (i : Nat) (b : Int) {q : Bool} (hq : seesB s i b = q) (g : Nat) (w : World) (hS : Scan w g s i) :
    Calls Tryd.prog 101 #[.pointer (some ⟨g, 0, none⟩), .int .u8 b] w fun e w' => e = .returned (.bool q) ∧ ∃ n, w' = w.drewN n := by
  subst hq
  exact sees_calls s (by omega) i b g w hS

theorem plain_some {s : ByteArray} {i : Nat} {k : Int} {c : ByteArray} {j : Nat} (hp : plainB s i = some (k, c, j)) (hs : s.size ≤ 140737488351232) (h91 : seesB s i 91 = false) (g : Nat) (w : World) (hS : Scan w g s i) :
    Calls Tryd.prog 102 #[.pointer (some ⟨g, 0, none⟩)] w fun e w' => e = .returned (.agg #[.int .i64 k, .string c]) ∧ Scan w' g s (j : Int) ∧ w.grownBy w' (some g) := by
  have h := plain_calls s hs i h91 g w hS
  rw [hp] at h
  exact h
theorem plain_none {s : ByteArray} {i : Nat} (hp : plainB s i = none) (hs : s.size ≤ 140737488351232) (h91 : seesB s i 91 = false) (g : Nat) (w : World) (hS : Scan w g s i) :
    Calls Tryd.prog 102 #[.pointer (some ⟨g, 0, none⟩)] w fun e w' => e = gaveUp 1 ∧ w.grownBy w' (some g) := by
  have h := plain_calls s hs i h91 g w hS
  rw [hp] at h
  exact h
theorem Box.setK {w : World} {n : Nat} {k : Int} {c : ByteArray} (h : Box w n k c) (k' : Int) : Box (w.setCell ⟨n, 0, none⟩ (.int .i64 k')) n k' c := by
  refine ⟨?_⟩
  have := h.heap
  simp [World.setCell, Array.getElem?_modify, this, tyO]
theorem Box.ne {w : World} {n : Nat} {k : Int} {c : ByteArray} (h : Box w n k c) (p : Addr) (v : Value) (hne : n ≠ p.block) : Box (w.setCell p v) n k c := ⟨(Below.heap_setCell w p v n hne).trans h.heap⟩
theorem Box.alloc {w : World} {n : Nat} {k : Int} {c : ByteArray} (h : Box w n k c) (o : Obj) : Box (w.alloc o) n k c := ⟨(al_old w o (Array.getElem?_eq_some_iff.1 h.heap).1).trans h.heap⟩

set_option maxHeartbeats 1000000 in
set_option maxRecDepth 100000 in
theorem array_no (s : ByteArray) (hs : s.size ≤ 140737488351232) (i : Nat) (h1 : seesB s i 73 = false) (h2 : seesB s i 76 = false) (g : Nat) (w : World) (hS : Scan w g s i) :
    Calls Tryd.prog 114 #[.pointer (some ⟨g, 0, none⟩)] w fun e w' => e = gaveUp 1 ∧ w.grownBy w' (some g) := by
  go_enter Tryd.func114, Tryd.ntmps114
  have e1 := sees_of s hs i 73 h1 g _ (hS.alloc (.cells #[.int .i64 0, .string ⟨#[]⟩] 75))
  have e2 := fun n => sees_of s hs i 76 h2 g _ ((hS.alloc (.cells #[.int .i64 0, .string ⟨#[]⟩] 75)).drewN n)
  go_wp2_with (first
    | (go_at_call 101; with_reducible refine e1.mono ?_; rintro e w' ⟨rfl, n, rfl⟩)
    | (go_at_call 101; with_reducible refine (e2 _).mono ?_; rintro e w' ⟨rfl, m, rfl⟩)
    | (go_at_call 99; refine (unless_no _ _).mono ?_; rintro e w' ⟨rfl, rfl⟩))
  have hgr : ∀ n, w.grownBy ((w.alloc (.cells #[.int .i64 0, .string ⟨#[]⟩] 75)).drewN n) (some g) := fun n => grownBy_trans (grownBy_alloc _ _ _) (grownBy_drewN _ _ _)
  exact ⟨rfl, rfl, hgr _⟩
set_option maxHeartbeats 1000000 in
set_option maxRecDepth 100000 in
theorem array_I (s : ByteArray) (hs : s.size ≤ 140737488351232) (i : Nat) (h1 : seesB s i 73 = true) {k : Int} {c : ByteArray} {j : Nat} (hp : plainB s i = some (k, c, j)) (k1 : 0 ≤ k) (k2 : k ≤ 5) (g : Nat) (w : World) (hS : Scan w g s i) :
    Calls Tryd.prog 114 #[.pointer (some ⟨g, 0, none⟩)] w fun e w' => e = .returned (.agg #[.int .i64 (k + 2), .string c]) ∧ Scan w' g s (j : Int) ∧ w.grownBy w' (some g) := by
  have hne : w.heap.size ≠ g := by have := hS.lt; omega
  have h91 : seesB s i 91 = false := by
    cases h : seesB s i 91 with
    | false => rfl
    | true =>
      obtain ⟨hi, hb⟩ := seesB_lt h
      obtain ⟨_, hb2⟩ := seesB_lt h1
      omega
  go_enter Tryd.func114, Tryd.ntmps114
  have e1 := sees_of s hs i 73 h1 g _ (hS.alloc (.cells #[.int .i64 0, .string ⟨#[]⟩] 75))
  have e3 := fun n => plain_some hp hs h91 g _ ((hS.alloc (.cells #[.int .i64 0, .string ⟨#[]⟩] 75)).drewN n)
  clear hp
  go_wp2_with (first
    | (go_at_call 101; with_reducible refine e1.mono ?_; rintro e w' ⟨rfl, n, rfl⟩)
    | (go_at_call 101; with_reducible refine (e2 _).mono ?_; rintro e w' ⟨rfl, m, rfl⟩)
    | (go_at_call 99; refine (unless_ok _ _).mono ?_; rintro e w' ⟨rfl, rfl⟩)
    | (go_at_call 102; with_reducible refine (e3 _).mono ?_; rintro e w' ⟨rfl, hS1, hg1⟩
       replace hg1 := grownBy_trans (grownBy_drewN _ _ _) hg1
       have hB := (Box.new w 0 ⟨#[]⟩).grown hg1 hne
       have b0 := hB.c0
       have b1 := hB.c1
       have bf0 := hB.fz 0
       have bf1 := hB.fz 1
       have hlt : w.heap.size < w'.heap.size := by have := hg1.size; rw [al_size] at this; omega
       have hlg : g < w'.heap.size := hS1.lt
       have hlq : w.heap.size ≠ w'.heap.size := Nat.ne_of_lt hlt
       have hlq' : w'.heap.size ≠ w.heap.size := Ne.symm hlq))
  have hD2 := (hB.set2 (k + 2) c).alloc (.cells #[.int .i64 (k + 2), .string c] 75)
  have r0 := hD2.c0
  have r1 := hD2.c1
  try simp only [Exit.inBlock, Exit.then]
  refine bodyPost_ret (v := .agg #[.int .i64 (k + 2), .string c]) (by simp [results, Tryd.results114, go_sem, r0, r1]) rfl ?_
  exact ⟨rfl, ((hS1.setNe _ _ (Ne.symm hne)).setNe _ _ (Ne.symm hne)).alloc _,
    grownBy_trans (grownBy_new (grownBy_new (grownBy_trans (grownBy_alloc _ _ _) hg1) _ _ (Nat.le_refl _)) _ _ (Nat.le_refl _)) (grownBy_alloc _ _ _)⟩
set_option maxHeartbeats 1000000 in
set_option maxRecDepth 100000 in
theorem array_L (s : ByteArray) (hs : s.size ≤ 140737488351232) (i : Nat) (h1 : seesB s i 73 = false) (h2 : seesB s i 76 = true) {k : Int} {c : ByteArray} {j : Nat} (hp : plainB s i = some (k, c, j)) (k1 : 0 ≤ k) (k2 : k ≤ 5) (g : Nat) (w : World) (hS : Scan w g s i) :
    Calls Tryd.prog 114 #[.pointer (some ⟨g, 0, none⟩)] w fun e w' => e = .returned (.agg #[.int .i64 (k + 2), .string c]) ∧ Scan w' g s (j : Int) ∧ w.grownBy w' (some g) := by
  have hne : w.heap.size ≠ g := by have := hS.lt; omega
  have h91 : seesB s i 91 = false := by
    cases h : seesB s i 91 with
    | false => rfl
    | true =>
      obtain ⟨hi, hb⟩ := seesB_lt h
      obtain ⟨_, hb2⟩ := seesB_lt h2
      omega
  go_enter Tryd.func114, Tryd.ntmps114
  have e1 := sees_of s hs i 73 h1 g _ (hS.alloc (.cells #[.int .i64 0, .string ⟨#[]⟩] 75))
  have e2 := fun n => sees_of s hs i 76 h2 g _ ((hS.alloc (.cells #[.int .i64 0, .string ⟨#[]⟩] 75)).drewN n)
  have e3 := fun n => plain_some hp hs h91 g _ ((hS.alloc (.cells #[.int .i64 0, .string ⟨#[]⟩] 75)).drewN n)
  clear hp
  go_wp2_with (first
    | (go_at_call 101; with_reducible refine e1.mono ?_; rintro e w' ⟨rfl, n, rfl⟩)
    | (go_at_call 101; with_reducible refine (e2 _).mono ?_; rintro e w' ⟨rfl, m, rfl⟩)
    | (go_at_call 99; refine (unless_ok _ _).mono ?_; rintro e w' ⟨rfl, rfl⟩)
    | (go_at_call 102; with_reducible refine (e3 _).mono ?_; rintro e w' ⟨rfl, hS1, hg1⟩
       replace hg1 := grownBy_trans (grownBy_drewN _ _ _) hg1
       have hB := (Box.new w 0 ⟨#[]⟩).grown hg1 hne
       have b0 := hB.c0
       have b1 := hB.c1
       have bf0 := hB.fz 0
       have bf1 := hB.fz 1
       have hlt : w.heap.size < w'.heap.size := by have := hg1.size; rw [al_size] at this; omega
       have hlg : g < w'.heap.size := hS1.lt
       have hlq : w.heap.size ≠ w'.heap.size := Nat.ne_of_lt hlt
       have hlq' : w'.heap.size ≠ w.heap.size := Ne.symm hlq))
  have hD2 := (hB.set2 (k + 2) c).alloc (.cells #[.int .i64 (k + 2), .string c] 75)
  have r0 := hD2.c0
  have r1 := hD2.c1
  try simp only [Exit.inBlock, Exit.then]
  refine bodyPost_ret (v := .agg #[.int .i64 (k + 2), .string c]) (by simp [results, Tryd.results114, go_sem, r0, r1]) rfl ?_
  exact ⟨rfl, ((hS1.setNe _ _ (Ne.symm hne)).setNe _ _ (Ne.symm hne)).alloc _,
    grownBy_trans (grownBy_new (grownBy_new (grownBy_trans (grownBy_alloc _ _ _) hg1) _ _ (Nat.le_refl _)) _ _ (Nat.le_refl _)) (grownBy_alloc _ _ _)⟩
set_option maxHeartbeats 1000000 in
set_option maxRecDepth 100000 in
theorem array_I_no (s : ByteArray) (hs : s.size ≤ 140737488351232) (i : Nat) (h1 : seesB s i 73 = true) (hp : plainB s i = none) (g : Nat) (w : World) (hS : Scan w g s i) :
    Calls Tryd.prog 114 #[.pointer (some ⟨g, 0, none⟩)] w fun e w' => e = gaveUp 1 ∧ w.grownBy w' (some g) := by
  have h91 : seesB s i 91 = false := by
    cases h : seesB s i 91 with
    | false => rfl
    | true =>
      obtain ⟨hi, hb⟩ := seesB_lt h
      obtain ⟨_, hb2⟩ := seesB_lt h1
      omega
  go_enter Tryd.func114, Tryd.ntmps114
  have e1 := sees_of s hs i 73 h1 g _ (hS.alloc (.cells #[.int .i64 0, .string ⟨#[]⟩] 75))
  have e3 := fun n => plain_none hp hs h91 g _ ((hS.alloc (.cells #[.int .i64 0, .string ⟨#[]⟩] 75)).drewN n)
  clear hp
  go_wp2_with (first
    | (go_at_call 101; with_reducible refine e1.mono ?_; rintro e w' ⟨rfl, n, rfl⟩)
    | (go_at_call 101; with_reducible refine (e2 _).mono ?_; rintro e w' ⟨rfl, m, rfl⟩)
    | (go_at_call 99; refine (unless_ok _ _).mono ?_; rintro e w' ⟨rfl, rfl⟩)
    | (go_at_call 102; with_reducible refine (e3 _).mono ?_; rintro e w' ⟨rfl, hg1⟩))
  exact ⟨rfl, rfl, grownBy_trans (grownBy_trans (grownBy_alloc _ _ _) (grownBy_drewN _ _ _)) hg1⟩
set_option maxHeartbeats 1000000 in
set_option maxRecDepth 100000 in
theorem array_L_no (s : ByteArray) (hs : s.size ≤ 140737488351232) (i : Nat) (h1 : seesB s i 73 = false) (h2 : seesB s i 76 = true) (hp : plainB s i = none) (g : Nat) (w : World) (hS : Scan w g s i) :
    Calls Tryd.prog 114 #[.pointer (some ⟨g, 0, none⟩)] w fun e w' => e = gaveUp 1 ∧ w.grownBy w' (some g) := by
  have h91 : seesB s i 91 = false := by
    cases h : seesB s i 91 with
    | false => rfl
    | true =>
      obtain ⟨hi, hb⟩ := seesB_lt h
      obtain ⟨_, hb2⟩ := seesB_lt h2
      omega
  go_enter Tryd.func114, Tryd.ntmps114
  have e1 := sees_of s hs i 73 h1 g _ (hS.alloc (.cells #[.int .i64 0, .string ⟨#[]⟩] 75))
  have e2 := fun n => sees_of s hs i 76 h2 g _ ((hS.alloc (.cells #[.int .i64 0, .string ⟨#[]⟩] 75)).drewN n)
  have e3 := fun n => plain_none hp hs h91 g _ ((hS.alloc (.cells #[.int .i64 0, .string ⟨#[]⟩] 75)).drewN n)
  clear hp
  go_wp2_with (first
    | (go_at_call 101; with_reducible refine e1.mono ?_; rintro e w' ⟨rfl, n, rfl⟩)
    | (go_at_call 101; with_reducible refine (e2 _).mono ?_; rintro e w' ⟨rfl, m, rfl⟩)
    | (go_at_call 99; refine (unless_ok _ _).mono ?_; rintro e w' ⟨rfl, rfl⟩)
    | (go_at_call 102; with_reducible refine (e3 _).mono ?_; rintro e w' ⟨rfl, hg1⟩))
  exact ⟨rfl, rfl, grownBy_trans (grownBy_trans (grownBy_alloc _ _ _) (grownBy_drewN _ _ _)) hg1⟩
end Go.Proofs.YtmamaijiphdggaaDoor.Given
