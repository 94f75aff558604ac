/- The inner functions of package kind that read a type, an array. -/
import Derived.Test.YtmamaijiphdggaaDoorScanB
import Derived.Handy
namespace Go.Proofs.YtmamaijiphdggaaDoor.Given
set_option linter.unusedVariables false
set_option linter.unusedSimpArgs false
open Go.RowKit Go.Lib

def tyV (k : Int) (c : ByteArray) : Value := .agg #[.int .i64 k, .string c]
def tyO (k : Int) (c : ByteArray) : Obj := .cells #[.int .i64 k, .string c] 75
theorem al_new (w : World) (o : Obj) : (w.alloc o).heap[w.heap.size]? = some o := by
  show (w.heap.push o)[w.heap.size]? = _
  simp
theorem al_old (w : World) (o : Obj) {r : Nat} (h : r < w.heap.size) : (w.alloc o).heap[r]? = w.heap[r]? := by
  show (w.heap.push o)[r]? = _
  rw [Array.getElem?_push_lt h, Array.getElem?_eq_getElem h]
theorem al_size (w : World) (o : Obj) : (w.alloc o).heap.size = w.heap.size + 1 := by
  show (w.heap.push o).size = _
  simp
/-- Block n is a type. -/
structure Box (w : World) (n : Nat) (k : Int) (c : ByteArray) : Prop where
  heap : w.heap[n]? = some (tyO k c)
theorem Box.c0 {w : World} {n : Nat} {k : Int} {c : ByteArray} (h : Box w n k c) : w.cell? ⟨n, 0, none⟩ = some (.int .i64 k) := by simp [World.cell?, h.heap, tyO]
theorem Box.c1 {w : World} {n : Nat} {k : Int} {c : ByteArray} (h : Box w n k c) : w.cell? ⟨n, 1, none⟩ = some (.string c) := by simp [World.cell?, h.heap, tyO]
theorem Box.fz {w : World} {n : Nat} {k : Int} {c : ByteArray} (h : Box w n k c) (i : Nat) : w.frozen? ⟨n, i, none⟩ = false := by simp [World.frozen?, h.heap, tyO]
theorem Box.new (w : World) (k : Int) (c : ByteArray) : Box (w.alloc (.cells #[.int .i64 k, .string c] 75)) w.heap.size k c := ⟨al_new w _⟩
theorem Box.grown {w w' : World} {n g : Nat} {k : Int} {c : ByteArray} (h : Box w n k c) (hg : w.grownBy w' (some g)) (hne : n ≠ g) : Box w' n k c :=
  ⟨(hg.block n (Array.getElem?_eq_some_iff.1 h.heap).1 (fun e => hne (Option.some.inj e))).trans h.heap⟩
theorem Scan.alloc {w : World} {g : Nat} {s : ByteArray} {a : Int} (h : Scan w g s a) (o : Obj) : Scan (w.alloc o) g s a := ⟨(al_old w o h.lt).trans h.heap⟩
theorem Scan.setNe {w : World} {g : Nat} {s : ByteArray} {a : Int} (h : Scan w g s a) (p : Addr) (v : Value) (hne : g ≠ p.block) : Scan (w.setCell p v) g s a := ⟨(Below.heap_setCell w p v g hne).trans h.heap⟩
theorem Box.set2 {w : World} {n : Nat} {k : Int} {c : ByteArray} (h : Box w n k c) (k' : Int) (c' : ByteArray) : Box ((w.setCell ⟨n, 0, none⟩ (.int .i64 k')).setCell ⟨n, 1, none⟩ (.string c')) n k' c' := by
  refine ⟨?_⟩
  have := h.heap
  simp [World.setCell, Array.getElem?_modify, this, tyO]
theorem grownBy_alloc (w : World) (o : Obj) (row : Option Nat) : w.grownBy (w.alloc o) row := ⟨rfl, rfl, rfl, by rw [al_size]; omega, fun k hk _ => al_old w o hk⟩
theorem grownBy_new {w w1 : World} {row : Option Nat} (h : w.grownBy w1 row) (p : Addr) (v : Value) (hp : w.heap.size ≤ p.block) : w.grownBy (w1.setCell p v) row :=
  ⟨h.os, h.tape, h.output, by simpa [World.setCell] using h.size, fun k hk hr => (Below.heap_setCell w1 p v k (by omega)).trans (h.block k hk hr)⟩

set_option maxHeartbeats 1000000 in
set_option maxRecDepth 100000 in
theorem one_V (s : ByteArray) (hs : s.size ≤ 140737488351232) (i : Nat) (hi : i < s.size) (hv : (s[i].toNat : Int) = 86) (g : Nat) (w : World) (hS : Scan w g s i) :
    Calls Tryd.prog 102 #[.pointer (some ⟨g, 0, none⟩)] w fun e w' => e = .returned (tyV 1 ⟨#[]⟩) ∧ Scan w' g s ((i + 1 : Nat) : Int) ∧ w.grownBy w' (some g) := by
  have hne : w.heap.size ≠ g := by have := hS.lt; omega
  go_enter Tryd.func102, Tryd.ntmps102
  go_wp2_with (first
    | (go_at_call 100; refine (byte_yes s hs i hi g _ (hS.alloc _)).mono ?_; rintro e w' ⟨rfl, hS1, hg1⟩; rw [hv]
       have hB := (Box.new w 0 ⟨#[]⟩).grown hg1 hne
       have b0 := hB.c0
       have b1 := hB.c1
       have bf0 := hB.fz 0
       have bf1 := hB.fz 1))
  have hB2 := hB.set2 1 ⟨#[]⟩
  have r0 := hB2.c0
  have r1 := hB2.c1
  try simp only [Exit.inBlock, Exit.then]
  refine bodyPost_ret (v := tyV 1 ⟨#[]⟩) (by simp [results, Tryd.results102, go_sem, r0, r1, tyV]) rfl ?_
  exact ⟨rfl, (hS1.setNe _ _ (Ne.symm hne)).setNe _ _ (Ne.symm hne), grownBy_new (grownBy_new (grownBy_trans (grownBy_alloc _ _ _) hg1) _ _ (Nat.le_refl _)) _ _ (Nat.le_refl _)⟩
set_option maxHeartbeats 1000000 in
set_option maxRecDepth 100000 in
theorem one_I (s : ByteArray) (hs : s.size ≤ 140737488351232) (i : Nat) (hi : i < s.size) (hv : (s[i].toNat : Int) = 73) (g : Nat) (w : World) (hS : Scan w g s i) :
    Calls Tryd.prog 102 #[.pointer (some ⟨g, 0, none⟩)] w fun e w' => e = .returned (tyV 2 ⟨#[]⟩) ∧ Scan w' g s ((i + 1 : Nat) : Int) ∧ w.grownBy w' (some g) := by
  have hne : w.heap.size ≠ g := by have := hS.lt; omega
  go_enter Tryd.func102, Tryd.ntmps102
  go_wp2_with (first
    | (go_at_call 100; refine (byte_yes s hs i hi g _ (hS.alloc _)).mono ?_; rintro e w' ⟨rfl, hS1, hg1⟩; rw [hv]
       have hB := (Box.new w 0 ⟨#[]⟩).grown hg1 hne
       have b0 := hB.c0
       have b1 := hB.c1
       have bf0 := hB.fz 0
       have bf1 := hB.fz 1))
  have hB2 := hB.set2 2 ⟨#[]⟩
  have r0 := hB2.c0
  have r1 := hB2.c1
  try simp only [Exit.inBlock, Exit.then]
  refine bodyPost_ret (v := tyV 2 ⟨#[]⟩) (by simp [results, Tryd.results102, go_sem, r0, r1, tyV]) rfl ?_
  exact ⟨rfl, (hS1.setNe _ _ (Ne.symm hne)).setNe _ _ (Ne.symm hne), grownBy_new (grownBy_new (grownBy_trans (grownBy_alloc _ _ _) hg1) _ _ (Nat.le_refl _)) _ _ (Nat.le_refl _)⟩
set_option maxHeartbeats 1000000 in
set_option maxRecDepth 100000 in
theorem one_L (s : ByteArray) (hs : s.size ≤ 140737488351232) (i : Nat) (hi : i < s.size) (hv : (s[i].toNat : Int) = 76) (hok : okOf s (i + 1) = true) (g : Nat) (w : World) (hS : Scan w g s i) :
    Calls Tryd.prog 102 #[.pointer (some ⟨g, 0, none⟩)] w fun e w' => e = .returned (tyV 3 (nameOf s (i + 1))) ∧ Scan w' g s ((i + 1 + (nameOf s (i + 1)).size + 1 : Nat) : Int) ∧ w.grownBy w' (some g) := by
  have hne : w.heap.size ≠ g := by have := hS.lt; omega
  go_enter Tryd.func102, Tryd.ntmps102
  go_wp2_with (first
    | (go_at_call 100; refine (byte_yes s hs i hi g _ (hS.alloc _)).mono ?_; rintro e w' ⟨rfl, hS1, hg1⟩; rw [hv]
       have hB := (Box.new w 0 ⟨#[]⟩).grown hg1 hne
       have b0 := hB.c0
       have b1 := hB.c1
       have bf0 := hB.fz 0
       have bf1 := hB.fz 1)
    | (go_at_call 113; refine (class_yes s hs (i + 1) (by omega) hok g _ hS1).mono ?_; rintro e w'' ⟨rfl, hS2, hg2⟩
       replace hg1 := grownBy_trans hg1 hg2
       clear hB b0 b1 bf0 bf1
       have hB := (Box.new w 0 ⟨#[]⟩).grown hg1 hne
       have b0 := hB.c0
       have b1 := hB.c1
       have bf0 := hB.fz 0
       have bf1 := hB.fz 1))
  have hB2 := hB.set2 3 (nameOf s (i + 1))
  have r0 := hB2.c0
  have r1 := hB2.c1
  try simp only [Exit.inBlock, Exit.then]
  refine bodyPost_ret (v := tyV 3 (nameOf s (i + 1))) (by simp [results, Tryd.results102, go_sem, r0, r1, tyV]) rfl ?_
  exact ⟨rfl, (hS2.setNe _ _ (Ne.symm hne)).setNe _ _ (Ne.symm hne), grownBy_new (grownBy_new (grownBy_trans (grownBy_alloc _ _ _) hg1) _ _ (Nat.le_refl _)) _ _ (Nat.le_refl _)⟩
set_option maxHeartbeats 1000000 in
set_option maxRecDepth 100000 in
theorem one_L_no (s : ByteArray) (hs : s.size ≤ 140737488351232) (i : Nat) (hi : i < s.size) (hv : (s[i].toNat : Int) = 76) (hok : okOf s (i + 1) = false) (g : Nat) (w : World) (hS : Scan w g s i) :
    Calls Tryd.prog 102 #[.pointer (some ⟨g, 0, none⟩)] w fun e w' => e = gaveUp 1 ∧ w.grownBy w' (some g) := by
  have hne : w.heap.size ≠ g := by have := hS.lt; omega
  go_enter Tryd.func102, Tryd.ntmps102
  go_wp2_with (first
    | (go_at_call 100; refine (byte_yes s hs i hi g _ (hS.alloc _)).mono ?_; rintro e w' ⟨rfl, hS1, hg1⟩; rw [hv])
    | (go_at_call 113; refine (class_no s hs (i + 1) (by omega) hok g _ hS1).mono ?_; rintro e w'' ⟨rfl, hg2⟩))
  exact ⟨rfl, rfl, grownBy_trans (grownBy_trans (grownBy_alloc _ _ _) hg1) hg2⟩
set_option maxHeartbeats 1000000 in
set_option maxRecDepth 100000 in
theorem one_end (s : ByteArray) (hs : s.size ≤ 140737488351232) (i : Nat) (hi : ¬ i < s.size) (g : Nat) (w : World) (hS : Scan w g s i) :
    Calls Tryd.prog 102 #[.pointer (some ⟨g, 0, none⟩)] w fun e w' => e = gaveUp 1 ∧ w.grownBy w' (some g) := by
  have hne : w.heap.size ≠ g := by have := hS.lt; omega
  go_enter Tryd.func102, Tryd.ntmps102
  go_wp2_with (first
    | (go_at_call 100; refine (byte_no s hs i hi g _ (hS.alloc _)).mono ?_; rintro e w' ⟨rfl, hg1⟩))
  exact ⟨rfl, rfl, grownBy_trans (grownBy_alloc _ _ _) hg1⟩
set_option maxHeartbeats 1000000 in
set_option maxRecDepth 100000 in
theorem one_other (s : ByteArray) (hs : s.size ≤ 140737488351232) (i : Nat) (hi : i < s.size) (h1 : (s[i].toNat : Int) ≠ 86) (h2 : (s[i].toNat : Int) ≠ 73) (h3 : (s[i].toNat : Int) ≠ 76) (h4 : (s[i].toNat : Int) ≠ 91) (g : Nat) (w : World) (hS : Scan w g s i) :
    Calls Tryd.prog 102 #[.pointer (some ⟨g, 0, none⟩)] w fun e w' => e = gaveUp 1 ∧ w.grownBy w' (some g) := by
  have hne : w.heap.size ≠ g := by have := hS.lt; omega
  have t1 := beq_eq_false_iff_ne.2 h1
  have t2 := beq_eq_false_iff_ne.2 h2
  have t3 := beq_eq_false_iff_ne.2 h3
  have t4 := beq_eq_false_iff_ne.2 h4
  go_enter Tryd.func102, Tryd.ntmps102
  go_wp2_with (first
    | (go_at_call 100; refine (byte_yes s hs i hi g _ (hS.alloc _)).mono ?_; rintro e w' ⟨rfl, hS1, hg1⟩))
  exact ⟨rfl, rfl, grownBy_trans (grownBy_alloc _ _ _) hg1⟩
end Go.Proofs.YtmamaijiphdggaaDoor.Given
