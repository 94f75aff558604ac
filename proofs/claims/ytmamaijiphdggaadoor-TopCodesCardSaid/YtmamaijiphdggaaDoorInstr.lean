/- The inner functions of package op over one instruction: op.has, op.spare, op.Same against the empty one, op.named, op.call. -/
import Derived.Test.YtmamaijiphdggaaDoorSplit
import Derived.Test.YtmamaijiphdggaaDoorShape
import Derived.Test.YtmamaijiphdggaaDoorHasAny
import Derived.Deep.DeepCutAuto
import Derived.Deep.CutBlock
namespace Go.Proofs.YtmamaijiphdggaaDoor.Given
set_option linter.unusedVariables false
set_option linter.unusedSimpArgs false
open Go.RowKit Go.Lib
open Go.Proofs.YtmamaijiphdggaaDoorW.PrintWords

theorem below_grown {w w' : World} (h : Below w.heap.size w w') : w.grownBy w' none := ⟨h.os, h.tape, h.output, h.size, fun k hk _ => h.block k hk⟩
theorem grown_below {w w' : World} (h : w.grownBy w' none) : Below w.heap.size w w' := ⟨h.os, h.tape, h.output, h.size, fun k hk => h.block k hk (by simp)⟩
theorem GW.grown {w w' : World} (h : GW w) (hg : w.grownBy w' none) : GW w' := h.below (grown_below hg)
theorem has_calls (s t : ByteArray) (w : World) : Calls Tryd.prog 40 #[.string s, .string t] w fun e w' => e = .returned (.bool (hasAnyB s t)) ∧ w.grownBy w' none := by
  go_enter Tryd.func40, Tryd.ntmps40
  go_wp2_with (go_at_call 73; refine (hasAny_calls _ _ _).mono ?_; rintro e w' ⟨rfl, hb⟩)
  go_ret
  exact ⟨rfl, below_grown hb⟩
def isCallB (o : Int) : Bool := o == 19 || o == 20 || o == 21
theorem IsCall_calls (o : Int) (w : World) : Calls Tryd.prog 18 #[.int .i64 o] w fun e w' => e = .returned (.bool (isCallB o)) ∧ w = w' := by
  go_enter Tryd.func18, Tryd.ntmps18
  go_wp2
  all_goals
    go_ret
    exact ⟨ret_bool (by simp [isCallB, *]), rfl⟩

/-- Block n is an instruction. -/
structure IBox (w : World) (n : Nat) (o a b c k : Int) (cl nm ds : ByteArray) (A : Option Addr) (len cap : Nat) : Prop where
  heap : w.heap[n]? = some (.cells #[.int .i64 o, .int .i64 a, .int .i64 b, .int .i64 c, .int .i64 k, .string cl, .string nm, .string ds, .slice A len cap] 44 (0, 0))
abbrev insV (o a b c k : Int) (cl nm ds : ByteArray) (A : Option Addr) (len cap : Nat) : Value := .agg #[.int .i64 o, .int .i64 a, .int .i64 b, .int .i64 c, .int .i64 k, .string cl, .string nm, .string ds, .slice A len cap]
section
variable {w w1 : World} {n : Nat} {o a b c k : Int} {cl nm ds : ByteArray} {A : Option Addr} {len cap : Nat}
theorem IBox.c0 (h : IBox w n o a b c k cl nm ds A len cap) : w.cell? ⟨n, 0, none⟩ = some (.int .i64 o) := by simp [World.cell?, h.heap]
theorem IBox.c1 (h : IBox w n o a b c k cl nm ds A len cap) : w.cell? ⟨n, 1, none⟩ = some (.int .i64 a) := by simp [World.cell?, h.heap]
theorem IBox.c2 (h : IBox w n o a b c k cl nm ds A len cap) : w.cell? ⟨n, 2, none⟩ = some (.int .i64 b) := by simp [World.cell?, h.heap]
theorem IBox.c3 (h : IBox w n o a b c k cl nm ds A len cap) : w.cell? ⟨n, 3, none⟩ = some (.int .i64 c) := by simp [World.cell?, h.heap]
theorem IBox.c4 (h : IBox w n o a b c k cl nm ds A len cap) : w.cell? ⟨n, 4, none⟩ = some (.int .i64 k) := by simp [World.cell?, h.heap]
theorem IBox.c5 (h : IBox w n o a b c k cl nm ds A len cap) : w.cell? ⟨n, 5, none⟩ = some (.string cl) := by simp [World.cell?, h.heap]
theorem IBox.c6 (h : IBox w n o a b c k cl nm ds A len cap) : w.cell? ⟨n, 6, none⟩ = some (.string nm) := by simp [World.cell?, h.heap]
theorem IBox.c7 (h : IBox w n o a b c k cl nm ds A len cap) : w.cell? ⟨n, 7, none⟩ = some (.string ds) := by simp [World.cell?, h.heap]
theorem IBox.c8 (h : IBox w n o a b c k cl nm ds A len cap) : w.cell? ⟨n, 8, none⟩ = some (.slice A len cap) := by simp [World.cell?, h.heap]
theorem IBox.fz (h : IBox w n o a b c k cl nm ds A len cap) (i : Nat) : w.frozen? ⟨n, i, none⟩ = false := by simp [World.frozen?, h.heap]
theorem IBox.grown (h : IBox w n o a b c k cl nm ds A len cap) (hg : w.grownBy w1 none) : IBox w1 n o a b c k cl nm ds A len cap := ⟨(hg.block n (Array.getElem?_eq_some_iff.1 h.heap).1 (by simp)).trans h.heap⟩
theorem IBox.new (w : World) (o a b c k : Int) (cl nm ds : ByteArray) (A : Option Addr) (len cap : Nat) : IBox (w.alloc (.cells #[.int .i64 o, .int .i64 a, .int .i64 b, .int .i64 c, .int .i64 k, .string cl, .string nm, .string ds, .slice A len cap] 44)) w.heap.size o a b c k cl nm ds A len cap := ⟨al_new w _⟩
theorem IBox.s0 (h : IBox w n o a b c k cl nm ds A len cap) (x : Int) : IBox (w.setCell ⟨n, 0, none⟩ (.int .i64 x)) n x a b c k cl nm ds A len cap := ⟨by have := h.heap; simp [World.setCell, Array.getElem?_modify, this]⟩
theorem IBox.s1 (h : IBox w n o a b c k cl nm ds A len cap) (x : Int) : IBox (w.setCell ⟨n, 1, none⟩ (.int .i64 x)) n o x b c k cl nm ds A len cap := ⟨by have := h.heap; simp [World.setCell, Array.getElem?_modify, this]⟩
theorem IBox.s2 (h : IBox w n o a b c k cl nm ds A len cap) (x : Int) : IBox (w.setCell ⟨n, 2, none⟩ (.int .i64 x)) n o a x c k cl nm ds A len cap := ⟨by have := h.heap; simp [World.setCell, Array.getElem?_modify, this]⟩
theorem IBox.s3 (h : IBox w n o a b c k cl nm ds A len cap) (x : Int) : IBox (w.setCell ⟨n, 3, none⟩ (.int .i64 x)) n o a b x k cl nm ds A len cap := ⟨by have := h.heap; simp [World.setCell, Array.getElem?_modify, this]⟩
theorem IBox.s4 (h : IBox w n o a b c k cl nm ds A len cap) (x : Int) : IBox (w.setCell ⟨n, 4, none⟩ (.int .i64 x)) n o a b c x cl nm ds A len cap := ⟨by have := h.heap; simp [World.setCell, Array.getElem?_modify, this]⟩
theorem IBox.s5 (h : IBox w n o a b c k cl nm ds A len cap) (x : ByteArray) : IBox (w.setCell ⟨n, 5, none⟩ (.string x)) n o a b c k x nm ds A len cap := ⟨by have := h.heap; simp [World.setCell, Array.getElem?_modify, this]⟩
theorem IBox.s6 (h : IBox w n o a b c k cl nm ds A len cap) (x : ByteArray) : IBox (w.setCell ⟨n, 6, none⟩ (.string x)) n o a b c k cl x ds A len cap := ⟨by have := h.heap; simp [World.setCell, Array.getElem?_modify, this]⟩
theorem IBox.s7 (h : IBox w n o a b c k cl nm ds A len cap) (x : ByteArray) : IBox (w.setCell ⟨n, 7, none⟩ (.string x)) n o a b c k cl nm x A len cap := ⟨by have := h.heap; simp [World.setCell, Array.getElem?_modify, this]⟩
theorem IBox.s9 (h : IBox w n o a b c k cl nm ds A len cap) (A' : Option Addr) (len' cap' : Nat) : IBox (w.setCell ⟨n, 8, none⟩ (.slice A' len' cap')) n o a b c k cl nm ds A' len' cap' := ⟨by have := h.heap; simp [World.setCell, Array.getElem?_modify, this]⟩
theorem IBox.s8 (h : IBox w n o a b c k cl nm ds A len cap) : IBox (w.setCell ⟨n, 8, none⟩ (.slice none 0 0)) n o a b c k cl nm ds none 0 0 := ⟨by have := h.heap; simp [World.setCell, Array.getElem?_modify, this]⟩
end
theorem below_far {w w1 : World} {n : Nat} (h : Below w.heap.size w w1) (hn : w.heap.size ≤ n) (i : Nat) (v : Value) : Below w.heap.size w (w1.setCell ⟨n, i, none⟩ v) := h.setCell (p := ⟨n, i, none⟩) hn v
theorem IBox.ne {w : World} {n : Nat} {o a b c k : Int} {cl nm ds : ByteArray} {A : Option Addr} {len cap : Nat} (h : IBox w n o a b c k cl nm ds A len cap) (p : Addr) (v : Value) (hne : n ≠ p.block) : IBox (w.setCell p v) n o a b c k cl nm ds A len cap := ⟨(Below.heap_setCell w p v n hne).trans h.heap⟩
def zi (b : Bool) (x : Int) : Int := if b then 0 else x
def zs (b : Bool) (x : ByteArray) : ByteArray := if b then ⟨#[]⟩ else x
def zA (b : Bool) (A : Option Addr) : Option Addr := if b then none else A
def zn (b : Bool) (n : Nat) : Nat := if b then 0 else n

set_option maxHeartbeats 8000000 in
set_option maxRecDepth 100000 in
theorem spare_walk (o a b c k : Int) (cl nm ds : ByteArray) (A : Option Addr) (len cap : Nat) (w : World) (hG : GW w) (q1 q2 q3 q4 q5 q6 q7 q8 : Bool) (hh1 : ∀ w, Calls Tryd.prog 40 #[.string (shapeB o), .string ⟨#[97]⟩] w fun e w' => e = .returned (.bool q1) ∧ w.grownBy w' none) (hh2 : ∀ w, Calls Tryd.prog 40 #[.string (shapeB o), .string ⟨#[98]⟩] w fun e w' => e = .returned (.bool q2) ∧ w.grownBy w' none) (hh3 : ∀ w, Calls Tryd.prog 40 #[.string (shapeB o), .string ⟨#[99]⟩] w fun e w' => e = .returned (.bool q3) ∧ w.grownBy w' none) (hh4 : ∀ w, Calls Tryd.prog 40 #[.string (shapeB o), .string ⟨#[107, 116, 114]⟩] w fun e w' => e = .returned (.bool q4) ∧ w.grownBy w' none) (hh5 : ∀ w, Calls Tryd.prog 40 #[.string (shapeB o), .string ⟨#[67, 70, 77]⟩] w fun e w' => e = .returned (.bool q5) ∧ w.grownBy w' none) (hh6 : ∀ w, Calls Tryd.prog 40 #[.string (shapeB o), .string ⟨#[70, 77]⟩] w fun e w' => e = .returned (.bool q6) ∧ w.grownBy w' none) (hh7 : ∀ w, Calls Tryd.prog 40 #[.string (shapeB o), .string ⟨#[77]⟩] w fun e w' => e = .returned (.bool q7) ∧ w.grownBy w' none) (hh8 : ∀ w, Calls Tryd.prog 40 #[.string (shapeB o), .string ⟨#[118]⟩] w fun e w' => e = .returned (.bool q8) ∧ w.grownBy w' none) :
    Calls Tryd.prog 42 #[insV o a b c k cl nm ds A len cap] w fun e w' => e = .returned (insV 0 (zi q1 a) (zi q2 b) (zi q3 c) (zi q4 k) (zs q5 cl) (zs q6 nm) (zs q7 ds) (zA q8 A) (zn q8 len) (zn q8 cap)) ∧ Below w.heap.size w w' := by
  have hG1 := hG.alloc (.cells #[.int .i64 o, .int .i64 a, .int .i64 b, .int .i64 c, .int .i64 k, .string cl, .string nm, .string ds, .slice A len cap] 44)
  have hI : IBox ((w.alloc (.cells #[.int .i64 0, .int .i64 a, .int .i64 b, .int .i64 c, .int .i64 k, .string cl, .string nm, .string ds, .slice A len cap] 44)).alloc (.cells #[.int .i64 0, .int .i64 0, .int .i64 0, .int .i64 0, .int .i64 0, .string ⟨#[]⟩, .string ⟨#[]⟩, .string ⟨#[]⟩, .slice none 0 0] 44)) w.heap.size 0 a b c k cl nm ds A len cap :=
    ⟨(al_old _ _ (by rw [al_size]; omega)).trans (al_new w _)⟩
  have hR : IBox ((w.alloc (.cells #[.int .i64 0, .int .i64 a, .int .i64 b, .int .i64 c, .int .i64 k, .string cl, .string nm, .string ds, .slice A len cap] 44)).alloc (.cells #[.int .i64 0, .int .i64 0, .int .i64 0, .int .i64 0, .int .i64 0, .string ⟨#[]⟩, .string ⟨#[]⟩, .string ⟨#[]⟩, .slice none 0 0] 44)) (w.heap.size + 1) 0 0 0 0 0 ⟨#[]⟩ ⟨#[]⟩ ⟨#[]⟩ none 0 0 := by
    have := al_new (w.alloc (.cells #[.int .i64 0, .int .i64 a, .int .i64 b, .int .i64 c, .int .i64 k, .string cl, .string nm, .string ds, .slice A len cap] 44)) (.cells #[.int .i64 0, .int .i64 0, .int .i64 0, .int .i64 0, .int .i64 0, .string ⟨#[]⟩, .string ⟨#[]⟩, .string ⟨#[]⟩, .slice none 0 0] 44)
    rw [al_size] at this
    exact ⟨this⟩
  have hB : Below w.heap.size w ((w.alloc (.cells #[.int .i64 0, .int .i64 a, .int .i64 b, .int .i64 c, .int .i64 k, .string cl, .string nm, .string ds, .slice A len cap] 44)).alloc (.cells #[.int .i64 0, .int .i64 0, .int .i64 0, .int .i64 0, .int .i64 0, .string ⟨#[]⟩, .string ⟨#[]⟩, .string ⟨#[]⟩, .slice none 0 0] 44)) :=
    ((Below.refl _ _).alloc (Nat.le_refl _) _).alloc (by rw [al_size]; omega) _
  have hn : w.heap.size + 1 ≠ w.heap.size := by omega
  go_enter Tryd.func42, Tryd.ntmps42
  go_upto_if 9 with (first
    | (go_at_call 10; refine (Shape_calls _ _ (by first | exact hG1 | exact hG1.alloc _)).mono ?_; rintro e w' ⟨rfl, rfl⟩)
    | (go_at_call 40; refine (hh1 _).mono ?_; rintro e w' ⟨rfl, hg⟩
       replace hI := hI.grown hg
       replace hR := hR.grown hg
       replace hB := hB.trans ((grown_below hg).mono hB.size)))
  clear hg
  go_cut [] (fun wc => IBox wc w.heap.size 0 (zi q1 a) b c k cl nm ds A len cap ∧ IBox wc (w.heap.size + 1) 0 0 0 0 0 ⟨#[]⟩ ⟨#[]⟩ ⟨#[]⟩ none 0 0 ∧ Below w.heap.size w wc)
  case first =>
    have c_ := hI.c1
    have f_ := hI.fz 1
    cases q1
    · go_wp2
      go_meet
      case rel => exact ⟨hI, hR, hB⟩
    · go_wp2
      go_meet
      case rel => exact ⟨hI.s1 0, hR.ne _ _ hn, hB.setCell (p := ⟨w.heap.size, 1, none⟩) (Nat.le_refl _) _⟩
  case rest =>
  clear hI hR hB hG1
  obtain ⟨hI, hR, hB⟩ := hcut
  go_upto_if 12 with (first
    | (go_at_call 40; refine (hh2 _).mono ?_; rintro e w' ⟨rfl, hg⟩
       replace hI := hI.grown hg
       replace hR := hR.grown hg
       replace hB := hB.trans ((grown_below hg).mono hB.size)))
  clear hg
  go_cut [] (fun wc => IBox wc w.heap.size 0 (zi q1 a) (zi q2 b) c k cl nm ds A len cap ∧ IBox wc (w.heap.size + 1) 0 0 0 0 0 ⟨#[]⟩ ⟨#[]⟩ ⟨#[]⟩ none 0 0 ∧ Below w.heap.size w wc)
  case first =>
    have c_ := hI.c2
    have f_ := hI.fz 2
    cases q2
    · go_wp2
      go_meet
      case rel => exact ⟨hI, hR, hB⟩
    · go_wp2
      go_meet
      case rel => exact ⟨hI.s2 0, hR.ne _ _ hn, hB.setCell (p := ⟨w.heap.size, 2, none⟩) (Nat.le_refl _) _⟩
  case rest =>
  clear hI hR hB
  obtain ⟨hI, hR, hB⟩ := hcut
  go_upto_if 15 with (first
    | (go_at_call 40; refine (hh3 _).mono ?_; rintro e w' ⟨rfl, hg⟩
       replace hI := hI.grown hg
       replace hR := hR.grown hg
       replace hB := hB.trans ((grown_below hg).mono hB.size)))
  clear hg
  go_cut [] (fun wc => IBox wc w.heap.size 0 (zi q1 a) (zi q2 b) (zi q3 c) k cl nm ds A len cap ∧ IBox wc (w.heap.size + 1) 0 0 0 0 0 ⟨#[]⟩ ⟨#[]⟩ ⟨#[]⟩ none 0 0 ∧ Below w.heap.size w wc)
  case first =>
    have c_ := hI.c3
    have f_ := hI.fz 3
    cases q3
    · go_wp2
      go_meet
      case rel => exact ⟨hI, hR, hB⟩
    · go_wp2
      go_meet
      case rel => exact ⟨hI.s3 0, hR.ne _ _ hn, hB.setCell (p := ⟨w.heap.size, 3, none⟩) (Nat.le_refl _) _⟩
  case rest =>
  clear hI hR hB
  obtain ⟨hI, hR, hB⟩ := hcut
  go_upto_if 18 with (first
    | (go_at_call 40; refine (hh4 _).mono ?_; rintro e w' ⟨rfl, hg⟩
       replace hI := hI.grown hg
       replace hR := hR.grown hg
       replace hB := hB.trans ((grown_below hg).mono hB.size)))
  clear hg
  go_cut [] (fun wc => IBox wc w.heap.size 0 (zi q1 a) (zi q2 b) (zi q3 c) (zi q4 k) cl nm ds A len cap ∧ IBox wc (w.heap.size + 1) 0 0 0 0 0 ⟨#[]⟩ ⟨#[]⟩ ⟨#[]⟩ none 0 0 ∧ Below w.heap.size w wc)
  case first =>
    have c_ := hI.c4
    have f_ := hI.fz 4
    cases q4
    · go_wp2
      go_meet
      case rel => exact ⟨hI, hR, hB⟩
    · go_wp2
      go_meet
      case rel => exact ⟨hI.s4 0, hR.ne _ _ hn, hB.setCell (p := ⟨w.heap.size, 4, none⟩) (Nat.le_refl _) _⟩
  case rest =>
  clear hI hR hB
  obtain ⟨hI, hR, hB⟩ := hcut
  go_upto_if 21 with (first
    | (go_at_call 40; refine (hh5 _).mono ?_; rintro e w' ⟨rfl, hg⟩
       replace hI := hI.grown hg
       replace hR := hR.grown hg
       replace hB := hB.trans ((grown_below hg).mono hB.size)))
  clear hg
  go_cut [] (fun wc => IBox wc w.heap.size 0 (zi q1 a) (zi q2 b) (zi q3 c) (zi q4 k) (zs q5 cl) nm ds A len cap ∧ IBox wc (w.heap.size + 1) 0 0 0 0 0 ⟨#[]⟩ ⟨#[]⟩ ⟨#[]⟩ none 0 0 ∧ Below w.heap.size w wc)
  case first =>
    have c_ := hI.c5
    have f_ := hI.fz 5
    cases q5
    · go_wp2
      go_meet
      case rel => exact ⟨hI, hR, hB⟩
    · go_wp2
      go_meet
      case rel => exact ⟨hI.s5 ⟨#[]⟩, hR.ne _ _ hn, hB.setCell (p := ⟨w.heap.size, 5, none⟩) (Nat.le_refl _) _⟩
  case rest =>
  clear hI hR hB
  obtain ⟨hI, hR, hB⟩ := hcut
  go_upto_if 24 with (first
    | (go_at_call 40; refine (hh6 _).mono ?_; rintro e w' ⟨rfl, hg⟩
       replace hI := hI.grown hg
       replace hR := hR.grown hg
       replace hB := hB.trans ((grown_below hg).mono hB.size)))
  clear hg
  go_cut [] (fun wc => IBox wc w.heap.size 0 (zi q1 a) (zi q2 b) (zi q3 c) (zi q4 k) (zs q5 cl) (zs q6 nm) ds A len cap ∧ IBox wc (w.heap.size + 1) 0 0 0 0 0 ⟨#[]⟩ ⟨#[]⟩ ⟨#[]⟩ none 0 0 ∧ Below w.heap.size w wc)
  case first =>
    have c_ := hI.c6
    have f_ := hI.fz 6
    cases q6
    · go_wp2
      go_meet
      case rel => exact ⟨hI, hR, hB⟩
    · go_wp2
      go_meet
      case rel => exact ⟨hI.s6 ⟨#[]⟩, hR.ne _ _ hn, hB.setCell (p := ⟨w.heap.size, 6, none⟩) (Nat.le_refl _) _⟩
  case rest =>
  clear hI hR hB
  obtain ⟨hI, hR, hB⟩ := hcut
  go_upto_if 27 with (first
    | (go_at_call 40; refine (hh7 _).mono ?_; rintro e w' ⟨rfl, hg⟩
       replace hI := hI.grown hg
       replace hR := hR.grown hg
       replace hB := hB.trans ((grown_below hg).mono hB.size)))
  clear hg
  go_cut [] (fun wc => IBox wc w.heap.size 0 (zi q1 a) (zi q2 b) (zi q3 c) (zi q4 k) (zs q5 cl) (zs q6 nm) (zs q7 ds) A len cap ∧ IBox wc (w.heap.size + 1) 0 0 0 0 0 ⟨#[]⟩ ⟨#[]⟩ ⟨#[]⟩ none 0 0 ∧ Below w.heap.size w wc)
  case first =>
    have c_ := hI.c7
    have f_ := hI.fz 7
    cases q7
    · go_wp2
      go_meet
      case rel => exact ⟨hI, hR, hB⟩
    · go_wp2
      go_meet
      case rel => exact ⟨hI.s7 ⟨#[]⟩, hR.ne _ _ hn, hB.setCell (p := ⟨w.heap.size, 7, none⟩) (Nat.le_refl _) _⟩
  case rest =>
  clear hI hR hB
  obtain ⟨hI, hR, hB⟩ := hcut
  go_upto_if 30 with (first
    | (go_at_call 40; refine (hh8 _).mono ?_; rintro e w' ⟨rfl, hg⟩
       replace hI := hI.grown hg
       replace hR := hR.grown hg
       replace hB := hB.trans ((grown_below hg).mono hB.size)))
  clear hg
  go_cut [] (fun wc => IBox wc w.heap.size 0 (zi q1 a) (zi q2 b) (zi q3 c) (zi q4 k) (zs q5 cl) (zs q6 nm) (zs q7 ds) (zA q8 A) (zn q8 len) (zn q8 cap) ∧ IBox wc (w.heap.size + 1) 0 0 0 0 0 ⟨#[]⟩ ⟨#[]⟩ ⟨#[]⟩ none 0 0 ∧ Below w.heap.size w wc)
  case first =>
    have c_ := hI.c8
    have f_ := hI.fz 8
    cases q8
    · go_wp2
      go_meet
      case rel => exact ⟨hI, hR, hB⟩
    · go_wp2
      go_meet
      case rel => exact ⟨hI.s8, hR.ne _ _ hn, hB.setCell (p := ⟨w.heap.size, 8, none⟩) (Nat.le_refl _) _⟩
  case rest =>
  clear hI hR hB
  obtain ⟨hI, hR, hB⟩ := hcut
  have d0 := hI.c0
  have d1 := hI.c1
  have d2 := hI.c2
  have d3 := hI.c3
  have d4 := hI.c4
  have d5 := hI.c5
  have d6 := hI.c6
  have d7 := hI.c7
  have d8 := hI.c8
  have e0 := hR.c0
  have z0 := hR.fz 0
  have e1 := hR.c1
  have z1 := hR.fz 1
  have e2 := hR.c2
  have z2 := hR.fz 2
  have e3 := hR.c3
  have z3 := hR.fz 3
  have e4 := hR.c4
  have z4 := hR.fz 4
  have e5 := hR.c5
  have z5 := hR.fz 5
  have e6 := hR.c6
  have z6 := hR.fz 6
  have e7 := hR.c7
  have z7 := hR.fz 7
  have e8 := hR.c8
  have z8 := hR.fz 8
  go_wp2
  have hF := ((((((((hR.s0 0).s1 (zi q1 a)).s2 (zi q2 b)).s3 (zi q3 c)).s4 (zi q4 k)).s5 (zs q5 cl)).s6 (zs q6 nm)).s7 (zs q7 ds)).s9 (zA q8 A) (zn q8 len) (zn q8 cap)
  have hle : w.heap.size ≤ w.heap.size + 1 := by omega
  have hZ := below_far (below_far (below_far (below_far (below_far (below_far (below_far (below_far (below_far hB hle 0 (.int .i64 0)) hle 1 (.int .i64 (zi q1 a))) hle 2 (.int .i64 (zi q2 b))) hle 3 (.int .i64 (zi q3 c))) hle 4 (.int .i64 (zi q4 k))) hle 5 (.string (zs q5 cl))) hle 6 (.string (zs q6 nm))) hle 7 (.string (zs q7 ds))) hle 8 (.slice (zA q8 A) (zn q8 len) (zn q8 cap))
  try simp only [Exit.inBlock, Exit.then]
  generalize ((((((((wc.setCell ⟨w.heap.size + 1, 0, none⟩ (.int .i64 0)).setCell ⟨w.heap.size + 1, 1, none⟩ (.int .i64 (zi q1 a))).setCell ⟨w.heap.size + 1, 2, none⟩ (.int .i64 (zi q2 b))).setCell ⟨w.heap.size + 1, 3, none⟩ (.int .i64 (zi q3 c))).setCell ⟨w.heap.size + 1, 4, none⟩ (.int .i64 (zi q4 k))).setCell ⟨w.heap.size + 1, 5, none⟩ (.string (zs q5 cl))).setCell ⟨w.heap.size + 1, 6, none⟩ (.string (zs q6 nm))).setCell ⟨w.heap.size + 1, 7, none⟩ (.string (zs q7 ds))).setCell ⟨w.heap.size + 1, 8, none⟩ (.slice (zA q8 A) (zn q8 len) (zn q8 cap)) = WF at hF hZ ⊢
  have r0 := hF.c0
  have r1 := hF.c1
  have r2 := hF.c2
  have r3 := hF.c3
  have r4 := hF.c4
  have r5 := hF.c5
  have r6 := hF.c6
  have r7 := hF.c7
  have r8 := hF.c8
  refine bodyPost_ret (v := insV 0 (zi q1 a) (zi q2 b) (zi q3 c) (zi q4 k) (zs q5 cl) (zs q6 nm) (zs q7 ds) (zA q8 A) (zn q8 len) (zn q8 cap)) (by simp [results, Tryd.results42, go_sem, r0, r1, r2, r3, r4, r5, r6, r7, r8]) rfl ?_
  exact ⟨rfl, hZ⟩

theorem has_at (s t : ByteArray) {q : Bool} (hq : hasAnyB s t = q) (w : World) : Calls Tryd.prog 40 #[.string s, .string t] w fun e w' => e = .returned (.bool q) ∧ w.grownBy w' none := by
  subst hq
  exact has_calls s t w
theorem spare_calls (o a b c k : Int) (cl nm ds : ByteArray) (A : Option Addr) (len cap : Nat) (w : World) (hG : GW w) :
    Calls Tryd.prog 42 #[insV o a b c k cl nm ds A len cap] w fun e w' => e = .returned (insV 0 (zi (hasAnyB (shapeB o) ⟨#[97]⟩) a) (zi (hasAnyB (shapeB o) ⟨#[98]⟩) b) (zi (hasAnyB (shapeB o) ⟨#[99]⟩) c) (zi (hasAnyB (shapeB o) ⟨#[107, 116, 114]⟩) k) (zs (hasAnyB (shapeB o) ⟨#[67, 70, 77]⟩) cl) (zs (hasAnyB (shapeB o) ⟨#[70, 77]⟩) nm) (zs (hasAnyB (shapeB o) ⟨#[77]⟩) ds) (zA (hasAnyB (shapeB o) ⟨#[118]⟩) A) (zn (hasAnyB (shapeB o) ⟨#[118]⟩) len) (zn (hasAnyB (shapeB o) ⟨#[118]⟩) cap)) ∧ Below w.heap.size w w' :=
  spare_walk o a b c k cl nm ds A len cap w hG _ _ _ _ _ _ _ _ (has_at _ _ rfl) (has_at _ _ rfl) (has_at _ _ rfl) (has_at _ _ rfl) (has_at _ _ rfl) (has_at _ _ rfl) (has_at _ _ rfl) (has_at _ _ rfl)
end Go.Proofs.YtmamaijiphdggaaDoor.Given
