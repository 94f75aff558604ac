/- The inner functions of package kind that scan a text: what each answers, and where each gives up. -/
import Derived.Test.YtmamaijiphdggaaDoorWord
import Derived.Below
import Derived.OwnWalk
import Derived.WalkLawsBesides
import Derived.WalkSpells
import Derived.Lib.Walk
import Derived.Lib.Strings
import Derived.Lib.Bytealg
import Derived.Laws.AppendOwn
import Derived.Deep.Draws
import Derived.Deep.RegionWith
import Derived.StillTailTactics
namespace Go.Proofs.YtmamaijiphdggaaDoor.Given
set_option linter.unusedVariables false
set_option linter.unusedSimpArgs false
open Go.RowKit Go.Lib

theorem unless_ok (n : Int) (w : World) : Calls Tryd.prog 99 #[.bool true, .int .i64 n] w fun e w' => e = .returned (.tuple #[]) ∧ w = w' := by
  go_enter Tryd.func99, Tryd.ntmps99
  go_wp2
  go_end0
  exact ⟨rfl, rfl⟩
theorem unless_no (n : Int) (w : World) : Calls Tryd.prog 99 #[.bool false, .int .i64 n] w fun e w' => e = .panicked [{ v := .iface 124 (.agg #[.int .i64 n]), recovered := false }] ∧ w = w' := by
  go_enter Tryd.func99, Tryd.ntmps99
  go_wp2
  exact ⟨rfl, rfl, rfl⟩
abbrev gaveUp (n : Int) : Ending := .panicked [{ v := .iface 124 (.agg #[.int .i64 n]), recovered := false }]

/-- Block g is a scanner of a text, at a place. -/
structure Scan (w : World) (g : Nat) (s : ByteArray) (at_ : Int) : Prop where
  heap : w.heap[g]? = some (.cells #[.string s, .int .i64 at_] 115 (0, 0))
theorem Scan.c0 {w : World} {g : Nat} {s : ByteArray} {a : Int} (h : Scan w g s a) : w.cell? ⟨g, 0, none⟩ = some (.string s) := by simp [World.cell?, h.heap]
theorem Scan.c1 {w : World} {g : Nat} {s : ByteArray} {a : Int} (h : Scan w g s a) : w.cell? ⟨g, 1, none⟩ = some (.int .i64 a) := by simp [World.cell?, h.heap]
theorem Scan.fz {w : World} {g : Nat} {s : ByteArray} {a : Int} (h : Scan w g s a) (i : Nat) : w.frozen? ⟨g, i, none⟩ = false := by simp [World.frozen?, h.heap]
theorem Scan.drewN {w : World} {g : Nat} {s : ByteArray} {a : Int} (h : Scan w g s a) (n : Nat) : Scan (w.drewN n) g s a := ⟨h.heap⟩
theorem Scan.drew {w : World} {g : Nat} {s : ByteArray} {a : Int} (h : Scan w g s a) : Scan w.drew g s a := ⟨h.heap⟩
theorem Scan.lt {w : World} {g : Nat} {s : ByteArray} {a : Int} (h : Scan w g s a) : g < w.heap.size := (Array.getElem?_eq_some_iff.1 h.heap).1
theorem Scan.set {w : World} {g : Nat} {s : ByteArray} {a : Int} (h : Scan w g s a) (b : Int) : Scan (w.setCell ⟨g, 1, none⟩ (.int .i64 b)) g s b := by
  refine ⟨?_⟩
  have := h.heap
  simp [World.setCell, Array.getElem?_modify, this]
theorem grownBy_refl (w : World) (row : Option Nat) : w.grownBy w row := ⟨rfl, rfl, rfl, Nat.le_refl _, fun _ _ _ => rfl⟩
theorem grownBy_trans {a b c : World} {row : Option Nat} (h : a.grownBy b row) (k : b.grownBy c row) : a.grownBy c row :=
  ⟨k.os.trans h.os, k.tape.trans h.tape, k.output.trans h.output, Nat.le_trans h.size k.size, fun i hi hr => (k.block i (Nat.lt_of_lt_of_le hi h.size) hr).trans (h.block i hi hr)⟩
theorem grownBy_drewN (w : World) (n : Nat) (row : Option Nat) : w.grownBy (w.drewN n) row := ⟨rfl, rfl, rfl, Nat.le_refl _, fun _ _ _ => rfl⟩
theorem grownBy_drew (w : World) (row : Option Nat) : w.grownBy w.drew row := ⟨rfl, rfl, rfl, Nat.le_refl _, fun _ _ _ => rfl⟩
theorem grownBy_set (w : World) (g i : Nat) (v : Value) : w.grownBy (w.setCell ⟨g, i, none⟩ v) (some g) :=
  ⟨rfl, rfl, rfl, by simp [World.setCell], fun k hk hr => Below.heap_setCell w _ v k (fun e => hr (by rw [e]))⟩

theorem sees_calls (s : ByteArray) (hs : s.size ≤ 9223372036854775807) (i : Nat) (b : Int) (g : Nat) (w : World) (hS : Scan w g s i) :
    Calls Tryd.prog 101 #[.pointer (some ⟨g, 0, none⟩), .int .u8 b] w fun e w' => e = .returned (.bool (if h : i < s.size then (s[i].toNat : Int) == b else false)) ∧ ∃ n, w' = w.drewN n := by
  have h0 := hS.c0
  have h1 := hS.c1
  by_cases h : i < s.size
  · have hd : decide ((i : Int) < (s.size : Int)) = true := decide_eq_true (by omega)
    have hd2 : decide (i < s.size) = true := decide_eq_true h
    have he : Hid ((if h : i < s.size then (s[i].toNat : Int) == b else false) = ((s[i].toNat : Int) == b)) := hid (dif_pos h)
    clear hS
    go_enter Tryd.func101, Tryd.ntmps101
    go_wp2
    go_quiet (fail)
    go_wp2
    go_ret
    exact ⟨rfl, _, rfl⟩
  · have hd : decide ((i : Int) < (s.size : Int)) = false := decide_eq_false (by omega)
    have hd2 : decide (i < s.size) = false := decide_eq_false h
    have he : Hid ((if h : i < s.size then (s[i].toNat : Int) == b else false) = false) := hid (dif_neg h)
    clear hS
    go_enter Tryd.func101, Tryd.ntmps101
    go_wp2
    go_quiet (fail)
    go_wp2
    go_ret
    exact ⟨rfl, _, rfl⟩

theorem byte_yes (s : ByteArray) (hs : s.size ≤ 140737488351232) (i : Nat) (hi : i < s.size) (g : Nat) (w : World) (hS : Scan w g s i) :
    Calls Tryd.prog 100 #[.pointer (some ⟨g, 0, none⟩)] w fun e w' => e = .returned (.int .u8 (s[i].toNat : Int)) ∧ Scan w' g s ((i + 1 : Nat) : Int) ∧ w.grownBy w' (some g) := by
  have h0 := hS.c0
  have h1 := hS.c1
  have hf := hS.fz 1
  have hd : decide ((i : Int) < (s.size : Int)) = true := decide_eq_true (by omega)
  have hd2 : decide (i < s.size) = true := decide_eq_true hi
  go_enter Tryd.func100, Tryd.ntmps100
  go_wp2
  go_quiet ((go_at_call 99; refine Calls.quiet_of_same ((unless_ok _ _).mono fun _ _ h => ⟨h.1, h.2.symm⟩)))
  go_wp2
  go_quiet (fail)
  go_wp2
  go_ret
  exact ⟨rfl, ((hS.drewN _).set _).drewN _, grownBy_trans (grownBy_trans (grownBy_drewN _ _ _) (grownBy_set _ _ _ _)) (grownBy_drewN _ _ _)⟩
set_option maxRecDepth 100000 in
theorem byte_no (s : ByteArray) (hs : s.size ≤ 140737488351232) (i : Nat) (hi : ¬ i < s.size) (g : Nat) (w : World) (hS : Scan w g s i) :
    Calls Tryd.prog 100 #[.pointer (some ⟨g, 0, none⟩)] w fun e w' => e = gaveUp 1 ∧ w.grownBy w' (some g) := by
  have h0 := hS.c0
  have h1 := hS.c1
  have hd : decide ((i : Int) < (s.size : Int)) = false := decide_eq_false (by omega)
  have hd2 : decide (i < s.size) = false := decide_eq_false hi
  go_enter Tryd.func100, Tryd.ntmps100
  go_wp2
  go_still_tail 10, (by kernel_rfl)
  go_wp2_with (go_at_call 99; refine (unless_no _ _).mono ?_; rintro e w' ⟨rfl, rfl⟩)
  exact ⟨rfl, rfl, grownBy_drew _ _⟩

theorem done_yes (s : ByteArray) (hs : s.size ≤ 140737488351232) (i : Nat) (hi : i = s.size) (g : Nat) (w : World) (hS : Scan w g s i) :
    Calls Tryd.prog 104 #[.pointer (some ⟨g, 0, none⟩)] w fun e w' => e = .returned (.tuple #[]) ∧ ∃ n, w' = w.drewN n := by
  have h0 := hS.c0
  have h1 := hS.c1
  have hd : ((i : Int) == (s.size : Int)) = true := beq_iff_eq.2 (by omega)
  have hd2 : (i == s.size) = true := beq_iff_eq.2 hi
  clear hi
  go_enter Tryd.func104, Tryd.ntmps104
  go_wp2
  go_quiet ((go_at_call 99; refine Calls.quiet_of_same ((unless_ok _ _).mono fun _ _ h => ⟨h.1, h.2.symm⟩)))
  go_wp2
  go_end0
  exact ⟨rfl, _, rfl⟩
set_option maxRecDepth 100000 in
theorem done_no (s : ByteArray) (hs : s.size ≤ 140737488351232) (i : Nat) (hi : i ≠ s.size) (g : Nat) (w : World) (hS : Scan w g s i) :
    Calls Tryd.prog 104 #[.pointer (some ⟨g, 0, none⟩)] w fun e w' => e = gaveUp 1 ∧ w.grownBy w' (some g) := by
  have h0 := hS.c0
  have h1 := hS.c1
  have hd : ((i : Int) == (s.size : Int)) = false := beq_eq_false_iff_ne.2 (by omega)
  have hd2 : (i == s.size) = false := beq_eq_false_iff_ne.2 hi
  clear hi
  go_enter Tryd.func104, Tryd.ntmps104
  go_wp2
  go_still_tail 10, (by kernel_rfl)
  go_wp2_with (go_at_call 99; refine (unless_no _ _).mono ?_; rintro e w' ⟨rfl, rfl⟩)
  exact ⟨rfl, rfl, grownBy_drew _ _⟩

theorem ret_int {k : IntKind} {a b : Int} (h : a = b) : Ending.returned (.int k a) = .returned (.int k b) := by rw [h]
set_option maxRecDepth 100000 in
theorem indexByte_calls (s : ByteArray) (c : Int) (w : World) :
    Calls Tryd.prog 122 #[.string s, .int .u8 c] w fun e w' => e = .returned (.int .i64 (Lib.indexByte s.data.toList c.toNat.toUInt8)) ∧ w = w' := by
  go_enter Tryd.func122, Tryd.ntmps122
  go_wp2
  rw [run_callFunc_extern Tryd.func126 (by kernel_rfl) (by kernel_rfl) (by kernel_rfl) (e := Extern.BytealgIndexByte.indexByte) (by kernel_rfl), Lib.run_indexByteString]
  simp only [Result.andThen]
  rw [Oper.upon_value]
  go_wp2
  go_ret
  exact ⟨rfl, rfl⟩
set_option maxRecDepth 100000 in
theorem index_calls (s : ByteArray) (w : World) :
    Calls Tryd.prog 121 #[.string s, .string ⟨#[59]⟩] w fun e w' => e = .returned (.int .i64 (Lib.indexByte s.data.toList 59)) ∧ w = w' := by
  cases h : (([59] : List UInt8) == s.toList) with
  | true =>
    have he : Hid ((0 : Int) = Lib.indexByte s.data.toList 59) := hid (by rw [← ByteArray.toList_eq, ← beq_iff_eq.1 h]; rfl)
    go_enter Tryd.func121, Tryd.ntmps121
    go_wp2_with (go_at_call 122; refine (indexByte_calls _ _ _).mono ?_; rintro e w' ⟨rfl, rfl⟩)
    go_ret
    exact ⟨ret_int he.out, rfl⟩
  | false =>
    go_enter Tryd.func121, Tryd.ntmps121
    go_wp2_with (go_at_call 122; refine (indexByte_calls _ _ _).mono ?_; rintro e w' ⟨rfl, rfl⟩)
    go_ret
    exact ⟨rfl, rfl⟩

/-- What stands ahead of the first semicolon, what behind it, and whether there is one. -/
def semi (s : ByteArray) : Int := Lib.indexByte s.data.toList 59
def cutA (s : ByteArray) : ByteArray := if 0 ≤ semi s then s.extract 0 (semi s).toNat else s
def cutB (s : ByteArray) : ByteArray := if 0 ≤ semi s then s.extract ((semi s).toNat + 1) s.size else ⟨#[]⟩
theorem indexByte_lt (l : List UInt8) (c : UInt8) : Lib.indexByte l c = -1 ∨ Lib.indexByte l c < (l.length : Int) := by
  induction l with
  | nil => exact .inl rfl
  | cons b l ih =>
    unfold Lib.indexByte
    split
    · right; simp
    · split
      · exact .inl rfl
      · rename_i h
        right
        rcases ih with ih | ih
        · rw [ih] at h; exact absurd rfl h
        · simp only [List.length_cons]; omega
theorem semi_lt (s : ByteArray) (h : 0 ≤ semi s) : (semi s).toNat < s.size := by
  have := indexByte_lt s.data.toList 59
  have hl : s.data.toList.length = s.size := by simp
  unfold semi at *
  omega
theorem stringslite_cut (s : ByteArray) (hs : s.size ≤ 140737488351232) (w : World) :
    Calls Tryd.prog 120 #[.string s, .string ⟨#[59]⟩] w fun e w' => e = .returned (.tuple #[.string (cutA s), .string (cutB s), .bool (decide (0 ≤ semi s))]) ∧ ∃ n, w' = w.drewN n := by
  have hlo := Lib.indexByte_ge s.data.toList 59
  by_cases h : 0 ≤ semi s
  · have hlt := semi_lt s h
    obtain ⟨j, hj⟩ : ∃ j : Nat, Lib.indexByte s.data.toList 59 = (j : Int) := ⟨(semi s).toNat, by unfold semi at *; omega⟩
    have hjl : j < s.size := by unfold semi at hlt; rw [hj] at hlt; simpa using hlt
    have ea : Hid (cutA s = s.extract 0 j) := hid (by unfold cutA semi; rw [hj]; simp)
    have eb : Hid (cutB s = s.extract (j + 1) s.size) := hid (by unfold cutB semi; rw [hj]; simp)
    have eo : Hid (decide (0 ≤ semi s) = true) := hid (decide_eq_true h)
    have q1 : (0 : Int) ≤ (j : Int) := by omega
    have q2 : (j : Int) ≤ (s.size : Int) := by omega
    have q3 : (j : Int) + 1 ≤ (s.size : Int) := by omega
    have H := hid hj
    clear hj h hlo hlt
    rw [ea.out, eb.out, eo.out]
    go_enter Tryd.func120, Tryd.ntmps120
    go_wp2_with (go_at_call 121; refine (index_calls _ _).mono ?_; rintro e w' ⟨rfl, rfl⟩; rw [H.out])
    go_quiet (fail)
    go_wp2
    go_ret3
    exact ⟨rfl, _, rfl⟩
  · have hj : Lib.indexByte s.data.toList 59 = -1 := by unfold semi at h; omega
    have ea : Hid (cutA s = s) := hid (by unfold cutA; rw [if_neg h])
    have eb : Hid (cutB s = ⟨#[]⟩) := hid (by unfold cutB; rw [if_neg h])
    have eo : Hid (decide (0 ≤ semi s) = false) := hid (decide_eq_false h)
    have H := hid hj
    clear hj h hlo
    rw [ea.out, eb.out, eo.out]
    go_enter Tryd.func120, Tryd.ntmps120
    go_wp2_with (go_at_call 121; refine (index_calls _ _).mono ?_; rintro e w' ⟨rfl, rfl⟩; rw [H.out])
    go_ret3
    exact ⟨rfl, 0, rfl⟩
theorem cut_calls (s : ByteArray) (hs : s.size ≤ 140737488351232) (w : World) :
    Calls Tryd.prog 118 #[.string s, .string ⟨#[59]⟩] w fun e w' => e = .returned (.tuple #[.string (cutA s), .string (cutB s), .bool (decide (0 ≤ semi s))]) ∧ ∃ n, w' = w.drewN n := by
  go_enter Tryd.func118, Tryd.ntmps118
  go_wp2_with (go_at_call 120; refine (stringslite_cut _ hs _).mono ?_; rintro e w' ⟨rfl, n, rfl⟩)
  go_ret3
  exact ⟨rfl, _, rfl⟩

/-- The class behind a place. -/
def tailOf (s : ByteArray) (i : Nat) : ByteArray := s.extract i s.size
def nameOf (s : ByteArray) (i : Nat) : ByteArray := cutA (tailOf s i)
def okOf (s : ByteArray) (i : Nat) : Bool := decide (0 ≤ semi (tailOf s i)) && ofB classB (nameOf s i)
theorem tail_size (s : ByteArray) (i : Nat) : (tailOf s i).size = s.size - i := by simp [tailOf]
theorem okOf_sizes (s : ByteArray) (i : Nat) (hi : i ≤ s.size) (h : okOf s i = true) : i + (nameOf s i).size < s.size ∧ (cutB (tailOf s i)).size = s.size - (i + (nameOf s i).size + 1) := by
  unfold okOf at h
  rw [Bool.and_eq_true, decide_eq_true_eq] at h
  have hlt := semi_lt _ h.1
  have ht := tail_size s i
  unfold nameOf cutA cutB
  rw [if_pos h.1, if_pos h.1]
  simp
  omega

end Go.Proofs.YtmamaijiphdggaaDoor.Given
