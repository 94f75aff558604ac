/- Part of a proof of this seat's statements: plain functions, contracts and rows, written by a program (the kit's printer, some functions given by hand) out of the translation; no conditions of its own. -/
import Derived.Test.YtmamaijiphdggaaDoorPOpx0
namespace Go.Proofs.YtmamaijiphdggaaDoor.POp
open Go.RowKit Go.Proofs.YtmamaijiphdggaaDoor.Given Go.Proofs.YtmamaijiphdggaaDoorW.PrintWords Go.Proofs.YtmamaijiphdggaaDoorW.PrintLast Go.Proofs.YtmamaijiphdggaaDoorW.PrintMore
attribute [local go_sem] max2_int min2_int max_two min_two max_three min_three max_four min_four   -- for this text's walks alone
set_option linter.unusedVariables false
set_option linter.unusedSimpArgs false

/-! ### secateurref07_Same: function 31 -/
def secateurref07_Same.l0 : Nat → Int → Int → Int → Int → Int → Int → ByteArray → ByteArray → ByteArray → List Int → Int → Int → Int → Int → Int → ByteArray → ByteArray → ByteArray → List Int → Option (Bool)
  | 0, _, _, _, _, _, _, _, _, _, _, _, _, _, _, _, _, _, _, _ => none
  | k + 1, x5, x286000, x286001, x286002, x286003, x286004, x286005, x286006, x286007, x286008, x287000, x287001, x287002, x287003, x287004, x287005, x287006, x287007, x287008 => if x5 < (x286008.length : Int) then (if 0 ≤ x5 then (if x5 < (x287008.length : Int) then (if (rd x286008 x5) = (rd x287008 x5) then (secateurref07_Same.l0 k (wrap64 (x5 + 1)) x286000 x286001 x286002 x286003 x286004 x286005 x286006 x286007 x286008 x287000 x287001 x287002 x287003 x287004 x287005 x287006 x287007 x287008) else (some false)) else (none)) else (none)) else (if x286000 = x287000 then (if x286001 = x287001 then (if x286002 = x287002 then (if x286003 = x287003 then (if x286004 = x287004 then (if x286005.toList = x287005.toList then (if x286006.toList = x287006.toList then (some (x286007.toList == x287007.toList)) else (some false)) else (some false)) else (some false)) else (some false)) else (some false)) else (some false)) else (some false))
def secateurref07_Same.f (k : Nat) (a0_0 : Int) (a0_1 : Int) (a0_2 : Int) (a0_3 : Int) (a0_4 : Int) (a0_5 : ByteArray) (a0_6 : ByteArray) (a0_7 : ByteArray) (l0_8 : List Int) (a1_0 : Int) (a1_1 : Int) (a1_2 : Int) (a1_3 : Int) (a1_4 : Int) (a1_5 : ByteArray) (a1_6 : ByteArray) (a1_7 : ByteArray) (l1_8 : List Int) : Option (Bool) := if (l0_8.length : Int) = (l1_8.length : Int) then (secateurref07_Same.l0 k 0 a0_0 a0_1 a0_2 a0_3 a0_4 a0_5 a0_6 a0_7 l0_8 a1_0 a1_1 a1_2 a1_3 a1_4 a1_5 a1_6 a1_7 l1_8) else (some false)
theorem secateurref07_Same.mono_l : ∀ k, (∀ y0 y1 y2 y3 y4 y5 y6 y7 y8 y9 y10 y11 y12 y13 y14 y15 y16 y17 y18, LeO (secateurref07_Same.l0 k y0 y1 y2 y3 y4 y5 y6 y7 y8 y9 y10 y11 y12 y13 y14 y15 y16 y17 y18) (secateurref07_Same.l0 (k + 1) y0 y1 y2 y3 y4 y5 y6 y7 y8 y9 y10 y11 y12 y13 y14 y15 y16 y17 y18))
  | 0 => fun _ _ _ _ _ _ _ _ _ _ _ _ _ _ _ _ _ _ _ r h => by simp [secateurref07_Same.l0] at h
  | k + 1 => by
    have ih0 := secateurref07_Same.mono_l k
    · intro y0 y1 y2 y3 y4 y5 y6 y7 y8 y9 y10 y11 y12 y13 y14 y15 y16 y17 y18
      unfold secateurref07_Same.l0
      repeat' first
      | (with_reducible exact ih0 _ _ _ _ _ _ _ _ _ _ _ _ _ _ _ _ _ _ _)
      | (with_reducible exact LeO.refl _)
      | (with_reducible exact LeO.none _)
      | (with_reducible refine LeO.ite ?_ ?_)
      | (with_reducible refine LeO.bind ?_ (fun _ => ?_))
      | exact ih0 _ _ _ _ _ _ _ _ _ _ _ _ _ _ _ _ _ _ _
      | exact LeO.none _
      | refine LeO.ite ?_ ?_
      | refine LeO.bind ?_ (fun _ => ?_)
theorem secateurref07_Same.mono : ∀ a0 a1 a2 a3 a4 a5 a6 a7 a8 a9 a10 a11 a12 a13 a14 a15 a16 a17 k, LeO (secateurref07_Same.f k a0 a1 a2 a3 a4 a5 a6 a7 a8 a9 a10 a11 a12 a13 a14 a15 a16 a17) (secateurref07_Same.f (k + 1) a0 a1 a2 a3 a4 a5 a6 a7 a8 a9 a10 a11 a12 a13 a14 a15 a16 a17) := by
  intro a0 a1 a2 a3 a4 a5 a6 a7 a8 a9 a10 a11 a12 a13 a14 a15 a16 a17 k
  have ih0 := secateurref07_Same.mono_l k
  unfold secateurref07_Same.f
  repeat' first
      | (with_reducible exact ih0 _ _ _ _ _ _ _ _ _ _ _ _ _ _ _ _ _ _ _)
      | (with_reducible exact LeO.refl _)
      | (with_reducible exact LeO.none _)
      | (with_reducible refine LeO.ite ?_ ?_)
      | (with_reducible refine LeO.bind ?_ (fun _ => ?_))
      | exact ih0 _ _ _ _ _ _ _ _ _ _ _ _ _ _ _ _ _ _ _
      | exact LeO.none _
      | refine LeO.ite ?_ ?_
      | refine LeO.bind ?_ (fun _ => ?_)
set_option maxHeartbeats 8000000 in
set_option maxRecDepth 100000 in
theorem secateurref07_Same.calls (k : Nat) (a0_0 : Int) (a0_1 : Int) (a0_2 : Int) (a0_3 : Int) (a0_4 : Int) (a0_5 : ByteArray) (a0_6 : ByteArray) (a0_7 : ByteArray) (A0_8 : Option Addr) (c0_8 : Nat) (l0_8 : List Int) (a1_0 : Int) (a1_1 : Int) (a1_2 : Int) (a1_3 : Int) (a1_4 : Int) (a1_5 : ByteArray) (a1_6 : ByteArray) (a1_7 : ByteArray) (A1_8 : Option Addr) (c1_8 : Nat) (l1_8 : List Int) (r : Bool) (w : World) (hr0_8 : Kd.C (Kd.int .i64) w A0_8 l0_8.length l0_8) (hc0_8 : l0_8.length ≤ c0_8) (hr1_8 : Kd.C (Kd.int .i64) w A1_8 l1_8.length l1_8) (hc1_8 : l1_8.length ≤ c1_8) (h : secateurref07_Same.f k a0_0 a0_1 a0_2 a0_3 a0_4 a0_5 a0_6 a0_7 l0_8 a1_0 a1_1 a1_2 a1_3 a1_4 a1_5 a1_6 a1_7 l1_8 = some r) :
    Calls Tryd.prog 31 #[.agg #[.int .i64 a0_0, .int .i64 a0_1, .int .i64 a0_2, .int .i64 a0_3, .int .i64 a0_4, .string a0_5, .string a0_6, .string a0_7, .slice A0_8 l0_8.length c0_8], .agg #[.int .i64 a1_0, .int .i64 a1_1, .int .i64 a1_2, .int .i64 a1_3, .int .i64 a1_4, .string a1_5, .string a1_6, .string a1_7, .slice A1_8 l1_8.length c1_8]] w fun e w' => e = .returned (.bool r) ∧ Below w.heap.size w w' := by
  have hu44 := Tryd.underlying44
  have HR0_8 := Aside0.mk hr0_8
  have HC0_8 := Aside0.mk hc0_8
  clear hr0_8 hc0_8
  have HR1_8 := Aside0.mk hr1_8
  have HC1_8 := Aside0.mk hc1_8
  clear hr1_8 hc1_8
  have HB := Aside0.mk (Below.refl w.heap.size w)
  have H : (if (l0_8.length : Int) = (l1_8.length : Int) then (secateurref07_Same.l0 k 0 a0_0 a0_1 a0_2 a0_3 a0_4 a0_5 a0_6 a0_7 l0_8 a1_0 a1_1 a1_2 a1_3 a1_4 a1_5 a1_6 a1_7 l1_8) else (some false)) = some r := h
  clear h
  by_cases c3 : (l0_8.length : Int) = (l1_8.length : Int)
  · rw [if_pos c3] at H
    have c3b0 : ((l0_8.length : Int) == (l1_8.length : Int)) = true := beq_iff_eq.mpr c3
    have c3b1 : ((l0_8.length : Int) != (l1_8.length : Int)) = false := bne_eq_false_iff_eq.mpr c3
    have c3b2 : (l0_8.length == l1_8.length) = true := by first | simpa using c3 | (simp at c3 ⊢; omega)
    clear c3
    have H' := Aside0.mk H
    clear H
    go_enter Tryd.func31, Tryd.ntmps31
    go_wp2_with (first | ((with_reducible refine gate_dst (N := 2) rfl ?_); refine box_event ?hg (N := 2) ?hd (cs := #[.int .i64 a0_0, .int .i64 a0_1, .int .i64 a0_2, .int .i64 a0_3, .int .i64 a0_4, .string a0_5, .string a0_6, .string a0_7, .slice A0_8 l0_8.length c0_8]) (t := 44) ?hr ?_; (case hd => rfl); (case hg => rfl); (case hr => first | (go_simp; done) | (go_simp; rfl)); intro gb285 hg w4 hbox hb; have n0_ := Aside0.mk (below_step (by repeat (first | (with_reducible first | exact HB.out | apply below_alloc | apply pw_below_drewN | apply below_drew1) | exact HB.out)) hb); have n1_ := Aside0.mk (hbox); have n2_ := Aside0.mk ((by rw [hg]; exact (below_size (by repeat (first | (with_reducible first | exact HB.out | apply below_alloc | apply pw_below_drewN | apply below_drew1) | exact HB.out))) : w.heap.size ≤ gb285)); have n3_ := Aside0.mk ((by rw [hg]; exact (below_size (by repeat (first | (with_reducible first | exact HB.out | apply below_alloc | apply pw_below_drewN | apply below_drew1) | exact HB.out))) : w.heap.size ≤ gb285)); clear HB; have HB := n0_; have BK285 := n1_; have GW285 := n2_; have GE285 := n3_; clear n0_ n1_ n2_ n3_; clear hb hbox hg) | ((with_reducible refine gate_dst (N := 3) rfl ?_); refine box_event ?hg (N := 3) ?hd (cs := #[.int .i64 a1_0, .int .i64 a1_1, .int .i64 a1_2, .int .i64 a1_3, .int .i64 a1_4, .string a1_5, .string a1_6, .string a1_7, .slice A1_8 l1_8.length c1_8]) (t := 44) ?hr ?_; (case hd => rfl); (case hg => rfl); (case hr => first | (go_simp; done) | (go_simp; rfl)); intro gb286 hg w5 hbox hb; have n0_ := Aside0.mk (blk_below (g := gb285) (o := .cells #[.int .i64 a0_0, .int .i64 a0_1, .int .i64 a0_2, .int .i64 a0_3, .int .i64 a0_4, .string a0_5, .string a0_6, .string a0_7, .slice A0_8 l0_8.length c0_8] 44 (0, 0)) (by (with_reducible repeat (first | refine blk_drewN ?_ _ | refine blk_drew ?_ | refine blk_alloc ?_ _)); exact BK285.out) hb); have n1_ := Aside0.mk (below_step (by repeat (first | (with_reducible first | exact HB.out | apply below_alloc | apply pw_below_drewN | apply below_drew1 | refine below_set ?_ GE285.out) | exact HB.out)) hb); have n2_ := Aside0.mk (hbox); have n3_ := Aside0.mk ((by rw [hg]; exact (below_size (by repeat (first | (with_reducible first | exact HB.out | apply below_alloc | apply pw_below_drewN | apply below_drew1 | refine below_set ?_ GE285.out) | exact HB.out))) : w.heap.size ≤ gb286)); have n4_ := Aside0.mk ((by rw [hg]; exact (below_size (by repeat (first | (with_reducible first | exact HB.out | apply below_alloc | apply pw_below_drewN | apply below_drew1 | refine below_set ?_ GE285.out) | exact HB.out))) : w.heap.size ≤ gb286)); have n5_ := Aside0.mk ((by rw [hg]; exact Nat.ne_of_lt (blk_lt (g := gb285) (o := .cells #[.int .i64 a0_0, .int .i64 a0_1, .int .i64 a0_2, .int .i64 a0_3, .int .i64 a0_4, .string a0_5, .string a0_6, .string a0_7, .slice A0_8 l0_8.length c0_8] 44 (0, 0)) (by (with_reducible repeat (first | refine blk_drewN ?_ _ | refine blk_drew ?_ | refine blk_alloc ?_ _)); exact BK285.out)) : gb285 ≠ gb286)); have n6_ := Aside0.mk ((by rw [hg]; exact Nat.ne_of_gt (blk_lt (g := gb285) (o := .cells #[.int .i64 a0_0, .int .i64 a0_1, .int .i64 a0_2, .int .i64 a0_3, .int .i64 a0_4, .string a0_5, .string a0_6, .string a0_7, .slice A0_8 l0_8.length c0_8] 44 (0, 0)) (by (with_reducible repeat (first | refine blk_drewN ?_ _ | refine blk_drew ?_ | refine blk_alloc ?_ _)); exact BK285.out)) : gb286 ≠ gb285)); clear BK285; clear HB; have BK285 := n0_; have HB := n1_; have BK286 := n2_; have GW286 := n3_; have GE286 := n4_; have NB285_286 := n5_; have NB286_285 := n6_; clear n0_ n1_ n2_ n3_ n4_ n5_ n6_; clear hb hbox hg; have hnb6 := NB285_286.out; have hnc6 := NB286_285.out; have hcz7_0 : w5.cell? ⟨gb285, 0, none⟩ = some (.int .i64 a0_0) := (blk_cell BK285.out 0).trans rfl; have hcz7_1 : w5.cell? ⟨gb285, 1, none⟩ = some (.int .i64 a0_1) := (blk_cell BK285.out 1).trans rfl; have hcz7_2 : w5.cell? ⟨gb285, 2, none⟩ = some (.int .i64 a0_2) := (blk_cell BK285.out 2).trans rfl; have hcz7_3 : w5.cell? ⟨gb285, 3, none⟩ = some (.int .i64 a0_3) := (blk_cell BK285.out 3).trans rfl; have hcz7_4 : w5.cell? ⟨gb285, 4, none⟩ = some (.int .i64 a0_4) := (blk_cell BK285.out 4).trans rfl; have hcz7_5 : w5.cell? ⟨gb285, 5, none⟩ = some (.string a0_5) := (blk_cell BK285.out 5).trans rfl; have hcz7_6 : w5.cell? ⟨gb285, 6, none⟩ = some (.string a0_6) := (blk_cell BK285.out 6).trans rfl; have hcz7_7 : w5.cell? ⟨gb285, 7, none⟩ = some (.string a0_7) := (blk_cell BK285.out 7).trans rfl; have hcz7_8 : w5.cell? ⟨gb285, 8, none⟩ = some (.slice A0_8 l0_8.length c0_8) := (blk_cell BK285.out 8).trans rfl; have hfz7_0 := blk_frozen BK285.out 0; have hfz7_1 := blk_frozen BK285.out 1; have hfz7_2 := blk_frozen BK285.out 2; have hfz7_3 := blk_frozen BK285.out 3; have hfz7_4 := blk_frozen BK285.out 4; have hfz7_5 := blk_frozen BK285.out 5; have hfz7_6 := blk_frozen BK285.out 6; have hfz7_7 := blk_frozen BK285.out 7; have hfz7_8 := blk_frozen BK285.out 8; have hcz8_0 : w5.cell? ⟨gb286, 0, none⟩ = some (.int .i64 a1_0) := (blk_cell BK286.out 0).trans rfl; have hcz8_1 : w5.cell? ⟨gb286, 1, none⟩ = some (.int .i64 a1_1) := (blk_cell BK286.out 1).trans rfl; have hcz8_2 : w5.cell? ⟨gb286, 2, none⟩ = some (.int .i64 a1_2) := (blk_cell BK286.out 2).trans rfl; have hcz8_3 : w5.cell? ⟨gb286, 3, none⟩ = some (.int .i64 a1_3) := (blk_cell BK286.out 3).trans rfl; have hcz8_4 : w5.cell? ⟨gb286, 4, none⟩ = some (.int .i64 a1_4) := (blk_cell BK286.out 4).trans rfl; have hcz8_5 : w5.cell? ⟨gb286, 5, none⟩ = some (.string a1_5) := (blk_cell BK286.out 5).trans rfl; have hcz8_6 : w5.cell? ⟨gb286, 6, none⟩ = some (.string a1_6) := (blk_cell BK286.out 6).trans rfl; have hcz8_7 : w5.cell? ⟨gb286, 7, none⟩ = some (.string a1_7) := (blk_cell BK286.out 7).trans rfl; have hcz8_8 : w5.cell? ⟨gb286, 8, none⟩ = some (.slice A1_8 l1_8.length c1_8) := (blk_cell BK286.out 8).trans rfl; have hfz8_0 := blk_frozen BK286.out 0; have hfz8_1 := blk_frozen BK286.out 1; have hfz8_2 := blk_frozen BK286.out 2; have hfz8_3 := blk_frozen BK286.out 3; have hfz8_4 := blk_frozen BK286.out 4; have hfz8_5 := blk_frozen BK286.out 5; have hfz8_6 := blk_frozen BK286.out 6; have hfz8_7 := blk_frozen BK286.out 7; have hfz8_8 := blk_frozen BK286.out 8))
    repeat (go_quiet (first | ((with_reducible refine gate_dst (N := 2) rfl ?_); refine box_event ?hg (N := 2) ?hd (cs := #[.int .i64 a0_0, .int .i64 a0_1, .int .i64 a0_2, .int .i64 a0_3, .int .i64 a0_4, .string a0_5, .string a0_6, .string a0_7, .slice A0_8 l0_8.length c0_8]) (t := 44) ?hr ?_; (case hd => rfl); (case hg => rfl); (case hr => first | (go_simp; done) | (go_simp; rfl)); intro gb285 hg w4 hbox hb; have n0_ := Aside0.mk (below_step (by repeat (first | (with_reducible first | exact HB.out | apply below_alloc | apply pw_below_drewN | apply below_drew1) | exact HB.out)) hb); have n1_ := Aside0.mk (hbox); have n2_ := Aside0.mk ((by rw [hg]; exact (below_size (by repeat (first | (with_reducible first | exact HB.out | apply below_alloc | apply pw_below_drewN | apply below_drew1) | exact HB.out))) : w.heap.size ≤ gb285)); have n3_ := Aside0.mk ((by rw [hg]; exact (below_size (by repeat (first | (with_reducible first | exact HB.out | apply below_alloc | apply pw_below_drewN | apply below_drew1) | exact HB.out))) : w.heap.size ≤ gb285)); clear HB; have HB := n0_; have BK285 := n1_; have GW285 := n2_; have GE285 := n3_; clear n0_ n1_ n2_ n3_; clear hb hbox hg) | ((with_reducible refine gate_dst (N := 3) rfl ?_); refine box_event ?hg (N := 3) ?hd (cs := #[.int .i64 a1_0, .int .i64 a1_1, .int .i64 a1_2, .int .i64 a1_3, .int .i64 a1_4, .string a1_5, .string a1_6, .string a1_7, .slice A1_8 l1_8.length c1_8]) (t := 44) ?hr ?_; (case hd => rfl); (case hg => rfl); (case hr => first | (go_simp; done) | (go_simp; rfl)); intro gb286 hg w5 hbox hb; have n0_ := Aside0.mk (blk_below (g := gb285) (o := .cells #[.int .i64 a0_0, .int .i64 a0_1, .int .i64 a0_2, .int .i64 a0_3, .int .i64 a0_4, .string a0_5, .string a0_6, .string a0_7, .slice A0_8 l0_8.length c0_8] 44 (0, 0)) (by (with_reducible repeat (first | refine blk_drewN ?_ _ | refine blk_drew ?_ | refine blk_alloc ?_ _)); exact BK285.out) hb); have n1_ := Aside0.mk (below_step (by repeat (first | (with_reducible first | exact HB.out | apply below_alloc | apply pw_below_drewN | apply below_drew1 | refine below_set ?_ GE285.out) | exact HB.out)) hb); have n2_ := Aside0.mk (hbox); have n3_ := Aside0.mk ((by rw [hg]; exact (below_size (by repeat (first | (with_reducible first | exact HB.out | apply below_alloc | apply pw_below_drewN | apply below_drew1 | refine below_set ?_ GE285.out) | exact HB.out))) : w.heap.size ≤ gb286)); have n4_ := Aside0.mk ((by rw [hg]; exact (below_size (by repeat (first | (with_reducible first | exact HB.out | apply below_alloc | apply pw_below_drewN | apply below_drew1 | refine below_set ?_ GE285.out) | exact HB.out))) : w.heap.size ≤ gb286)); have n5_ := Aside0.mk ((by rw [hg]; exact Nat.ne_of_lt (blk_lt (g := gb285) (o := .cells #[.int .i64 a0_0, .int .i64 a0_1, .int .i64 a0_2, .int .i64 a0_3, .int .i64 a0_4, .string a0_5, .string a0_6, .string a0_7, .slice A0_8 l0_8.length c0_8] 44 (0, 0)) (by (with_reducible repeat (first | refine blk_drewN ?_ _ | refine blk_drew ?_ | refine blk_alloc ?_ _)); exact BK285.out)) : gb285 ≠ gb286)); have n6_ := Aside0.mk ((by rw [hg]; exact Nat.ne_of_gt (blk_lt (g := gb285) (o := .cells #[.int .i64 a0_0, .int .i64 a0_1, .int .i64 a0_2, .int .i64 a0_3, .int .i64 a0_4, .string a0_5, .string a0_6, .string a0_7, .slice A0_8 l0_8.length c0_8] 44 (0, 0)) (by (with_reducible repeat (first | refine blk_drewN ?_ _ | refine blk_drew ?_ | refine blk_alloc ?_ _)); exact BK285.out)) : gb286 ≠ gb285)); clear BK285; clear HB; have BK285 := n0_; have HB := n1_; have BK286 := n2_; have GW286 := n3_; have GE286 := n4_; have NB285_286 := n5_; have NB286_285 := n6_; clear n0_ n1_ n2_ n3_ n4_ n5_ n6_; clear hb hbox hg; have hnb6 := NB285_286.out; have hnc6 := NB286_285.out; have hcz7_0 : w5.cell? ⟨gb285, 0, none⟩ = some (.int .i64 a0_0) := (blk_cell BK285.out 0).trans rfl; have hcz7_1 : w5.cell? ⟨gb285, 1, none⟩ = some (.int .i64 a0_1) := (blk_cell BK285.out 1).trans rfl; have hcz7_2 : w5.cell? ⟨gb285, 2, none⟩ = some (.int .i64 a0_2) := (blk_cell BK285.out 2).trans rfl; have hcz7_3 : w5.cell? ⟨gb285, 3, none⟩ = some (.int .i64 a0_3) := (blk_cell BK285.out 3).trans rfl; have hcz7_4 : w5.cell? ⟨gb285, 4, none⟩ = some (.int .i64 a0_4) := (blk_cell BK285.out 4).trans rfl; have hcz7_5 : w5.cell? ⟨gb285, 5, none⟩ = some (.string a0_5) := (blk_cell BK285.out 5).trans rfl; have hcz7_6 : w5.cell? ⟨gb285, 6, none⟩ = some (.string a0_6) := (blk_cell BK285.out 6).trans rfl; have hcz7_7 : w5.cell? ⟨gb285, 7, none⟩ = some (.string a0_7) := (blk_cell BK285.out 7).trans rfl; have hcz7_8 : w5.cell? ⟨gb285, 8, none⟩ = some (.slice A0_8 l0_8.length c0_8) := (blk_cell BK285.out 8).trans rfl; have hfz7_0 := blk_frozen BK285.out 0; have hfz7_1 := blk_frozen BK285.out 1; have hfz7_2 := blk_frozen BK285.out 2; have hfz7_3 := blk_frozen BK285.out 3; have hfz7_4 := blk_frozen BK285.out 4; have hfz7_5 := blk_frozen BK285.out 5; have hfz7_6 := blk_frozen BK285.out 6; have hfz7_7 := blk_frozen BK285.out 7; have hfz7_8 := blk_frozen BK285.out 8; have hcz8_0 : w5.cell? ⟨gb286, 0, none⟩ = some (.int .i64 a1_0) := (blk_cell BK286.out 0).trans rfl; have hcz8_1 : w5.cell? ⟨gb286, 1, none⟩ = some (.int .i64 a1_1) := (blk_cell BK286.out 1).trans rfl; have hcz8_2 : w5.cell? ⟨gb286, 2, none⟩ = some (.int .i64 a1_2) := (blk_cell BK286.out 2).trans rfl; have hcz8_3 : w5.cell? ⟨gb286, 3, none⟩ = some (.int .i64 a1_3) := (blk_cell BK286.out 3).trans rfl; have hcz8_4 : w5.cell? ⟨gb286, 4, none⟩ = some (.int .i64 a1_4) := (blk_cell BK286.out 4).trans rfl; have hcz8_5 : w5.cell? ⟨gb286, 5, none⟩ = some (.string a1_5) := (blk_cell BK286.out 5).trans rfl; have hcz8_6 : w5.cell? ⟨gb286, 6, none⟩ = some (.string a1_6) := (blk_cell BK286.out 6).trans rfl; have hcz8_7 : w5.cell? ⟨gb286, 7, none⟩ = some (.string a1_7) := (blk_cell BK286.out 7).trans rfl; have hcz8_8 : w5.cell? ⟨gb286, 8, none⟩ = some (.slice A1_8 l1_8.length c1_8) := (blk_cell BK286.out 8).trans rfl; have hfz8_0 := blk_frozen BK286.out 0; have hfz8_1 := blk_frozen BK286.out 1; have hfz8_2 := blk_frozen BK286.out 2; have hfz8_3 := blk_frozen BK286.out 3; have hfz8_4 := blk_frozen BK286.out 4; have hfz8_5 := blk_frozen BK286.out 5; have hfz8_6 := blk_frozen BK286.out 6; have hfz8_7 := blk_frozen BK286.out 7; have hfz8_8 := blk_frozen BK286.out 8)); try go_wp2_with (first | ((with_reducible refine gate_dst (N := 2) rfl ?_); refine box_event ?hg (N := 2) ?hd (cs := #[.int .i64 a0_0, .int .i64 a0_1, .int .i64 a0_2, .int .i64 a0_3, .int .i64 a0_4, .string a0_5, .string a0_6, .string a0_7, .slice A0_8 l0_8.length c0_8]) (t := 44) ?hr ?_; (case hd => rfl); (case hg => rfl); (case hr => first | (go_simp; done) | (go_simp; rfl)); intro gb285 hg w4 hbox hb; have n0_ := Aside0.mk (below_step (by repeat (first | (with_reducible first | exact HB.out | apply below_alloc | apply pw_below_drewN | apply below_drew1) | exact HB.out)) hb); have n1_ := Aside0.mk (hbox); have n2_ := Aside0.mk ((by rw [hg]; exact (below_size (by repeat (first | (with_reducible first | exact HB.out | apply below_alloc | apply pw_below_drewN | apply below_drew1) | exact HB.out))) : w.heap.size ≤ gb285)); have n3_ := Aside0.mk ((by rw [hg]; exact (below_size (by repeat (first | (with_reducible first | exact HB.out | apply below_alloc | apply pw_below_drewN | apply below_drew1) | exact HB.out))) : w.heap.size ≤ gb285)); clear HB; have HB := n0_; have BK285 := n1_; have GW285 := n2_; have GE285 := n3_; clear n0_ n1_ n2_ n3_; clear hb hbox hg) | ((with_reducible refine gate_dst (N := 3) rfl ?_); refine box_event ?hg (N := 3) ?hd (cs := #[.int .i64 a1_0, .int .i64 a1_1, .int .i64 a1_2, .int .i64 a1_3, .int .i64 a1_4, .string a1_5, .string a1_6, .string a1_7, .slice A1_8 l1_8.length c1_8]) (t := 44) ?hr ?_; (case hd => rfl); (case hg => rfl); (case hr => first | (go_simp; done) | (go_simp; rfl)); intro gb286 hg w5 hbox hb; have n0_ := Aside0.mk (blk_below (g := gb285) (o := .cells #[.int .i64 a0_0, .int .i64 a0_1, .int .i64 a0_2, .int .i64 a0_3, .int .i64 a0_4, .string a0_5, .string a0_6, .string a0_7, .slice A0_8 l0_8.length c0_8] 44 (0, 0)) (by (with_reducible repeat (first | refine blk_drewN ?_ _ | refine blk_drew ?_ | refine blk_alloc ?_ _)); exact BK285.out) hb); have n1_ := Aside0.mk (below_step (by repeat (first | (with_reducible first | exact HB.out | apply below_alloc | apply pw_below_drewN | apply below_drew1 | refine below_set ?_ GE285.out) | exact HB.out)) hb); have n2_ := Aside0.mk (hbox); have n3_ := Aside0.mk ((by rw [hg]; exact (below_size (by repeat (first | (with_reducible first | exact HB.out | apply below_alloc | apply pw_below_drewN | apply below_drew1 | refine below_set ?_ GE285.out) | exact HB.out))) : w.heap.size ≤ gb286)); have n4_ := Aside0.mk ((by rw [hg]; exact (below_size (by repeat (first | (with_reducible first | exact HB.out | apply below_alloc | apply pw_below_drewN | apply below_drew1 | refine below_set ?_ GE285.out) | exact HB.out))) : w.heap.size ≤ gb286)); have n5_ := Aside0.mk ((by rw [hg]; exact Nat.ne_of_lt (blk_lt (g := gb285) (o := .cells #[.int .i64 a0_0, .int .i64 a0_1, .int .i64 a0_2, .int .i64 a0_3, .int .i64 a0_4, .string a0_5, .string a0_6, .string a0_7, .slice A0_8 l0_8.length c0_8] 44 (0, 0)) (by (with_reducible repeat (first | refine blk_drewN ?_ _ | refine blk_drew ?_ | refine blk_alloc ?_ _)); exact BK285.out)) : gb285 ≠ gb286)); have n6_ := Aside0.mk ((by rw [hg]; exact Nat.ne_of_gt (blk_lt (g := gb285) (o := .cells #[.int .i64 a0_0, .int .i64 a0_1, .int .i64 a0_2, .int .i64 a0_3, .int .i64 a0_4, .string a0_5, .string a0_6, .string a0_7, .slice A0_8 l0_8.length c0_8] 44 (0, 0)) (by (with_reducible repeat (first | refine blk_drewN ?_ _ | refine blk_drew ?_ | refine blk_alloc ?_ _)); exact BK285.out)) : gb286 ≠ gb285)); clear BK285; clear HB; have BK285 := n0_; have HB := n1_; have BK286 := n2_; have GW286 := n3_; have GE286 := n4_; have NB285_286 := n5_; have NB286_285 := n6_; clear n0_ n1_ n2_ n3_ n4_ n5_ n6_; clear hb hbox hg; have hnb6 := NB285_286.out; have hnc6 := NB286_285.out; have hcz7_0 : w5.cell? ⟨gb285, 0, none⟩ = some (.int .i64 a0_0) := (blk_cell BK285.out 0).trans rfl; have hcz7_1 : w5.cell? ⟨gb285, 1, none⟩ = some (.int .i64 a0_1) := (blk_cell BK285.out 1).trans rfl; have hcz7_2 : w5.cell? ⟨gb285, 2, none⟩ = some (.int .i64 a0_2) := (blk_cell BK285.out 2).trans rfl; have hcz7_3 : w5.cell? ⟨gb285, 3, none⟩ = some (.int .i64 a0_3) := (blk_cell BK285.out 3).trans rfl; have hcz7_4 : w5.cell? ⟨gb285, 4, none⟩ = some (.int .i64 a0_4) := (blk_cell BK285.out 4).trans rfl; have hcz7_5 : w5.cell? ⟨gb285, 5, none⟩ = some (.string a0_5) := (blk_cell BK285.out 5).trans rfl; have hcz7_6 : w5.cell? ⟨gb285, 6, none⟩ = some (.string a0_6) := (blk_cell BK285.out 6).trans rfl; have hcz7_7 : w5.cell? ⟨gb285, 7, none⟩ = some (.string a0_7) := (blk_cell BK285.out 7).trans rfl; have hcz7_8 : w5.cell? ⟨gb285, 8, none⟩ = some (.slice A0_8 l0_8.length c0_8) := (blk_cell BK285.out 8).trans rfl; have hfz7_0 := blk_frozen BK285.out 0; have hfz7_1 := blk_frozen BK285.out 1; have hfz7_2 := blk_frozen BK285.out 2; have hfz7_3 := blk_frozen BK285.out 3; have hfz7_4 := blk_frozen BK285.out 4; have hfz7_5 := blk_frozen BK285.out 5; have hfz7_6 := blk_frozen BK285.out 6; have hfz7_7 := blk_frozen BK285.out 7; have hfz7_8 := blk_frozen BK285.out 8; have hcz8_0 : w5.cell? ⟨gb286, 0, none⟩ = some (.int .i64 a1_0) := (blk_cell BK286.out 0).trans rfl; have hcz8_1 : w5.cell? ⟨gb286, 1, none⟩ = some (.int .i64 a1_1) := (blk_cell BK286.out 1).trans rfl; have hcz8_2 : w5.cell? ⟨gb286, 2, none⟩ = some (.int .i64 a1_2) := (blk_cell BK286.out 2).trans rfl; have hcz8_3 : w5.cell? ⟨gb286, 3, none⟩ = some (.int .i64 a1_3) := (blk_cell BK286.out 3).trans rfl; have hcz8_4 : w5.cell? ⟨gb286, 4, none⟩ = some (.int .i64 a1_4) := (blk_cell BK286.out 4).trans rfl; have hcz8_5 : w5.cell? ⟨gb286, 5, none⟩ = some (.string a1_5) := (blk_cell BK286.out 5).trans rfl; have hcz8_6 : w5.cell? ⟨gb286, 6, none⟩ = some (.string a1_6) := (blk_cell BK286.out 6).trans rfl; have hcz8_7 : w5.cell? ⟨gb286, 7, none⟩ = some (.string a1_7) := (blk_cell BK286.out 7).trans rfl; have hcz8_8 : w5.cell? ⟨gb286, 8, none⟩ = some (.slice A1_8 l1_8.length c1_8) := (blk_cell BK286.out 8).trans rfl; have hfz8_0 := blk_frozen BK286.out 0; have hfz8_1 := blk_frozen BK286.out 1; have hfz8_2 := blk_frozen BK286.out 2; have hfz8_3 := blk_frozen BK286.out 3; have hfz8_4 := blk_frozen BK286.out 4; have hfz8_5 := blk_frozen BK286.out 5; have hfz8_6 := blk_frozen BK286.out 6; have hfz8_7 := blk_frozen BK286.out 7; have hfz8_8 := blk_frozen BK286.out 8)))
    go_loopg [5] k (fun kq v5 w' => ∃ (x5_1 : Int), v5 = .int .i64 x5_1 ∧ Aside0 (secateurref07_Same.l0 kq x5_1 a0_0 a0_1 a0_2 a0_3 a0_4 a0_5 a0_6 a0_7 l0_8 a1_0 a1_1 a1_2 a1_3 a1_4 a1_5 a1_6 a1_7 l1_8 = some r) ∧ Aside0 (kq ≤ k) ∧ Aside0 (w'.heap[gb285]? = some (.cells #[.int .i64 a0_0, .int .i64 a0_1, .int .i64 a0_2, .int .i64 a0_3, .int .i64 a0_4, .string a0_5, .string a0_6, .string a0_7, (.slice A0_8 l0_8.length c0_8)] 44 (0, 0))) ∧ Aside0 (w'.heap[gb286]? = some (.cells #[.int .i64 a1_0, .int .i64 a1_1, .int .i64 a1_2, .int .i64 a1_3, .int .i64 a1_4, .string a1_5, .string a1_6, .string a1_7, (.slice A1_8 l1_8.length c1_8)] 44 (0, 0))) ∧ Aside0 (Below w.heap.size w w'))
    case atStart => exact ⟨(0), (by first | rfl | (simp; done) | (simp [*]; done)), H', ⟨Nat.le_refl _⟩, ⟨by (with_reducible repeat (first | refine blk_drewN ?_ _ | refine blk_drew ?_ | refine blk_alloc ?_ _)); exact BK285.out⟩, ⟨by (with_reducible repeat (first | refine blk_drewN ?_ _ | refine blk_drew ?_ | refine blk_alloc ?_ _)); exact BK286.out⟩, ⟨by repeat (first | (with_reducible first | exact HB.out | apply below_alloc | apply pw_below_drewN | apply below_drew1 | refine below_set ?_ GE285.out | refine below_set ?_ GE286.out) | exact HB.out)⟩⟩
    case round =>
      clear H'
      try clear c1
      try clear p2
      try clear c3
      try clear c3b0
      try clear c3b1
      try clear c3b2
      try clear c6
      try clear hcz7_0
      try clear hcz7_1
      try clear hcz7_2
      try clear hcz7_3
      try clear hcz7_4
      try clear hcz7_5
      try clear hcz7_6
      try clear hcz7_7
      try clear hcz7_8
      try clear hcz8_0
      try clear hcz8_1
      try clear hcz8_2
      try clear hcz8_3
      try clear hcz8_4
      try clear hcz8_5
      try clear hcz8_6
      try clear hcz8_7
      try clear hcz8_8
      try clear hfz7_0
      try clear hfz7_1
      try clear hfz7_2
      try clear hfz7_3
      try clear hfz7_4
      try clear hfz7_5
      try clear hfz7_6
      try clear hfz7_7
      try clear hfz7_8
      try clear hfz8_0
      try clear hfz8_1
      try clear hfz8_2
      try clear hfz8_3
      try clear hfz8_4
      try clear hfz8_5
      try clear hfz8_6
      try clear hfz8_7
      try clear hfz8_8
      obtain ⟨x5_1, rfl, HA, HK1, BK285, BK286, HB⟩ := hrel
      cases gk with
      | zero => exact absurd HA.out (by simp [secateurref07_Same.l0])
      | succ k1 =>
        have H := HA.out
        clear HA
        simp only [secateurref07_Same.l0] at H
        by_cases c9 : x5_1 < (l0_8.length : Int)
        · rw [if_pos c9] at H
          have c9b0 : decide (x5_1 < (l0_8.length : Int)) = true := decide_eq_true c9
          clear c9
          by_cases c10 : 0 ≤ x5_1
          · rw [if_pos c10] at H
            have c10b0 : decide (0 ≤ x5_1) = true := decide_eq_true c10
            clear c10
            by_cases c11 : x5_1 < (l1_8.length : Int)
            · rw [if_pos c11] at H
              have c11b0 : decide (x5_1 < (l1_8.length : Int)) = true := decide_eq_true c11
              clear c11
              by_cases c12 : (rd l0_8 x5_1) = (rd l1_8 x5_1)
              · rw [if_pos c12] at H
                have c12b0 : ((rd l0_8 x5_1) == (rd l1_8 x5_1)) = true := beq_iff_eq.mpr c12
                have c12b1 : ((rd l0_8 x5_1) != (rd l1_8 x5_1)) = false := bne_eq_false_iff_eq.mpr c12
                clear c12
                have H' := Aside0.mk H
                clear H
                have hnb13 := NB285_286.out
                have hnc13 := NB286_285.out
                have hcz14_0 : wr.cell? ⟨gb285, 0, none⟩ = some (.int .i64 a0_0) := (blk_cell BK285.out 0).trans rfl
                have hcz14_1 : wr.cell? ⟨gb285, 1, none⟩ = some (.int .i64 a0_1) := (blk_cell BK285.out 1).trans rfl
                have hcz14_2 : wr.cell? ⟨gb285, 2, none⟩ = some (.int .i64 a0_2) := (blk_cell BK285.out 2).trans rfl
                have hcz14_3 : wr.cell? ⟨gb285, 3, none⟩ = some (.int .i64 a0_3) := (blk_cell BK285.out 3).trans rfl
                have hcz14_4 : wr.cell? ⟨gb285, 4, none⟩ = some (.int .i64 a0_4) := (blk_cell BK285.out 4).trans rfl
                have hcz14_5 : wr.cell? ⟨gb285, 5, none⟩ = some (.string a0_5) := (blk_cell BK285.out 5).trans rfl
                have hcz14_6 : wr.cell? ⟨gb285, 6, none⟩ = some (.string a0_6) := (blk_cell BK285.out 6).trans rfl
                have hcz14_7 : wr.cell? ⟨gb285, 7, none⟩ = some (.string a0_7) := (blk_cell BK285.out 7).trans rfl
                have hcz14_8 : wr.cell? ⟨gb285, 8, none⟩ = some (.slice A0_8 l0_8.length c0_8) := (blk_cell BK285.out 8).trans rfl
                have hfz14_0 := blk_frozen BK285.out 0
                have hfz14_1 := blk_frozen BK285.out 1
                have hfz14_2 := blk_frozen BK285.out 2
                have hfz14_3 := blk_frozen BK285.out 3
                have hfz14_4 := blk_frozen BK285.out 4
                have hfz14_5 := blk_frozen BK285.out 5
                have hfz14_6 := blk_frozen BK285.out 6
                have hfz14_7 := blk_frozen BK285.out 7
                have hfz14_8 := blk_frozen BK285.out 8
                have p287 : 0 ≤ (x5_1 : Int) := of_decide_eq_true (by first | (with_reducible assumption) | assumption)
                have q287 : x5_1 < (l0_8.length : Int) := of_decide_eq_true (by first | (with_reducible assumption) | assumption)
                obtain ⟨ad287, e287, hx287_0⟩ := Kd.at_int HR0_8.out x5_1 p287 q287
                cases e287
                replace hx287_0 := (HB.out.cell (World.block_lt_of_cell? w _ hx287_0)).trans hx287_0
                replace p287 := eq_true p287
                replace q287 := eq_true q287
                have hcz15_0 : wr.cell? ⟨gb286, 0, none⟩ = some (.int .i64 a1_0) := (blk_cell BK286.out 0).trans rfl
                have hcz15_1 : wr.cell? ⟨gb286, 1, none⟩ = some (.int .i64 a1_1) := (blk_cell BK286.out 1).trans rfl
                have hcz15_2 : wr.cell? ⟨gb286, 2, none⟩ = some (.int .i64 a1_2) := (blk_cell BK286.out 2).trans rfl
                have hcz15_3 : wr.cell? ⟨gb286, 3, none⟩ = some (.int .i64 a1_3) := (blk_cell BK286.out 3).trans rfl
                have hcz15_4 : wr.cell? ⟨gb286, 4, none⟩ = some (.int .i64 a1_4) := (blk_cell BK286.out 4).trans rfl
                have hcz15_5 : wr.cell? ⟨gb286, 5, none⟩ = some (.string a1_5) := (blk_cell BK286.out 5).trans rfl
                have hcz15_6 : wr.cell? ⟨gb286, 6, none⟩ = some (.string a1_6) := (blk_cell BK286.out 6).trans rfl
                have hcz15_7 : wr.cell? ⟨gb286, 7, none⟩ = some (.string a1_7) := (blk_cell BK286.out 7).trans rfl
                have hcz15_8 : wr.cell? ⟨gb286, 8, none⟩ = some (.slice A1_8 l1_8.length c1_8) := (blk_cell BK286.out 8).trans rfl
                have hfz15_0 := blk_frozen BK286.out 0
                have hfz15_1 := blk_frozen BK286.out 1
                have hfz15_2 := blk_frozen BK286.out 2
                have hfz15_3 := blk_frozen BK286.out 3
                have hfz15_4 := blk_frozen BK286.out 4
                have hfz15_5 := blk_frozen BK286.out 5
                have hfz15_6 := blk_frozen BK286.out 6
                have hfz15_7 := blk_frozen BK286.out 7
                have hfz15_8 := blk_frozen BK286.out 8
                have p288 : 0 ≤ (x5_1 : Int) := of_decide_eq_true (by first | (with_reducible assumption) | assumption)
                have q288 : x5_1 < (l1_8.length : Int) := of_decide_eq_true (by first | (with_reducible assumption) | assumption)
                obtain ⟨ad288, e288, hx288_0⟩ := Kd.at_int HR1_8.out x5_1 p288 q288
                cases e288
                replace hx288_0 := (HB.out.cell (World.block_lt_of_cell? w _ hx288_0)).trans hx288_0
                replace p288 := eq_true p288
                replace q288 := eq_true q288
                go_wp2
                repeat (go_quiet (fail); try go_wp2)
                go_roundg k1
                case measure => have := HK1.out; omega
                case rel => exact ⟨(wrap64 (x5_1 + 1)), (by first | rfl | (simp; done) | (simp [*]; done)), H', ⟨by have := HK1.out; omega⟩, ⟨by (with_reducible repeat (first | refine blk_drewN ?_ _ | refine blk_drew ?_ | refine blk_alloc ?_ _)); exact BK285.out⟩, ⟨by (with_reducible repeat (first | refine blk_drewN ?_ _ | refine blk_drew ?_ | refine blk_alloc ?_ _)); exact BK286.out⟩, ⟨by repeat (first | (with_reducible first | exact HB.out | apply below_alloc | apply pw_below_drewN | apply below_drew1 | refine below_set ?_ GE285.out | refine below_set ?_ GE286.out) | exact HB.out)⟩⟩
              · rw [if_neg c12] at H
                have c12b0 : ((rd l0_8 x5_1) == (rd l1_8 x5_1)) = false := beq_eq_false_iff_ne.mpr c12
                have c12b1 : ((rd l0_8 x5_1) != (rd l1_8 x5_1)) = true := bne_iff_ne.mpr c12
                obtain rfl := Option.some.inj H
                simp only [Option.some.injEq, Prod.mk.injEq] at H
                obtain ⟨rfl⟩ := H
                have hnb16 := NB285_286.out
                have hnc16 := NB286_285.out
                have hcz17_0 : wr.cell? ⟨gb285, 0, none⟩ = some (.int .i64 a0_0) := (blk_cell BK285.out 0).trans rfl
                have hcz17_1 : wr.cell? ⟨gb285, 1, none⟩ = some (.int .i64 a0_1) := (blk_cell BK285.out 1).trans rfl
                have hcz17_2 : wr.cell? ⟨gb285, 2, none⟩ = some (.int .i64 a0_2) := (blk_cell BK285.out 2).trans rfl
                have hcz17_3 : wr.cell? ⟨gb285, 3, none⟩ = some (.int .i64 a0_3) := (blk_cell BK285.out 3).trans rfl
                have hcz17_4 : wr.cell? ⟨gb285, 4, none⟩ = some (.int .i64 a0_4) := (blk_cell BK285.out 4).trans rfl
                have hcz17_5 : wr.cell? ⟨gb285, 5, none⟩ = some (.string a0_5) := (blk_cell BK285.out 5).trans rfl
                have hcz17_6 : wr.cell? ⟨gb285, 6, none⟩ = some (.string a0_6) := (blk_cell BK285.out 6).trans rfl
                have hcz17_7 : wr.cell? ⟨gb285, 7, none⟩ = some (.string a0_7) := (blk_cell BK285.out 7).trans rfl
                have hcz17_8 : wr.cell? ⟨gb285, 8, none⟩ = some (.slice A0_8 l0_8.length c0_8) := (blk_cell BK285.out 8).trans rfl
                have hfz17_0 := blk_frozen BK285.out 0
                have hfz17_1 := blk_frozen BK285.out 1
                have hfz17_2 := blk_frozen BK285.out 2
                have hfz17_3 := blk_frozen BK285.out 3
                have hfz17_4 := blk_frozen BK285.out 4
                have hfz17_5 := blk_frozen BK285.out 5
                have hfz17_6 := blk_frozen BK285.out 6
                have hfz17_7 := blk_frozen BK285.out 7
                have hfz17_8 := blk_frozen BK285.out 8
                have p287 : 0 ≤ (x5_1 : Int) := of_decide_eq_true (by first | (with_reducible assumption) | assumption)
                have q287 : x5_1 < (l0_8.length : Int) := of_decide_eq_true (by first | (with_reducible assumption) | assumption)
                obtain ⟨ad287, e287, hx287_0⟩ := Kd.at_int HR0_8.out x5_1 p287 q287
                cases e287
                replace hx287_0 := (HB.out.cell (World.block_lt_of_cell? w _ hx287_0)).trans hx287_0
                replace p287 := eq_true p287
                replace q287 := eq_true q287
                have hcz18_0 : wr.cell? ⟨gb286, 0, none⟩ = some (.int .i64 a1_0) := (blk_cell BK286.out 0).trans rfl
                have hcz18_1 : wr.cell? ⟨gb286, 1, none⟩ = some (.int .i64 a1_1) := (blk_cell BK286.out 1).trans rfl
                have hcz18_2 : wr.cell? ⟨gb286, 2, none⟩ = some (.int .i64 a1_2) := (blk_cell BK286.out 2).trans rfl
                have hcz18_3 : wr.cell? ⟨gb286, 3, none⟩ = some (.int .i64 a1_3) := (blk_cell BK286.out 3).trans rfl
                have hcz18_4 : wr.cell? ⟨gb286, 4, none⟩ = some (.int .i64 a1_4) := (blk_cell BK286.out 4).trans rfl
                have hcz18_5 : wr.cell? ⟨gb286, 5, none⟩ = some (.string a1_5) := (blk_cell BK286.out 5).trans rfl
                have hcz18_6 : wr.cell? ⟨gb286, 6, none⟩ = some (.string a1_6) := (blk_cell BK286.out 6).trans rfl
                have hcz18_7 : wr.cell? ⟨gb286, 7, none⟩ = some (.string a1_7) := (blk_cell BK286.out 7).trans rfl
                have hcz18_8 : wr.cell? ⟨gb286, 8, none⟩ = some (.slice A1_8 l1_8.length c1_8) := (blk_cell BK286.out 8).trans rfl
                have hfz18_0 := blk_frozen BK286.out 0
                have hfz18_1 := blk_frozen BK286.out 1
                have hfz18_2 := blk_frozen BK286.out 2
                have hfz18_3 := blk_frozen BK286.out 3
                have hfz18_4 := blk_frozen BK286.out 4
                have hfz18_5 := blk_frozen BK286.out 5
                have hfz18_6 := blk_frozen BK286.out 6
                have hfz18_7 := blk_frozen BK286.out 7
                have hfz18_8 := blk_frozen BK286.out 8
                have p288 : 0 ≤ (x5_1 : Int) := of_decide_eq_true (by first | (with_reducible assumption) | assumption)
                have q288 : x5_1 < (l1_8.length : Int) := of_decide_eq_true (by first | (with_reducible assumption) | assumption)
                obtain ⟨ad288, e288, hx288_0⟩ := Kd.at_int HR1_8.out x5_1 p288 q288
                cases e288
                replace hx288_0 := (HB.out.cell (World.block_lt_of_cell? w _ hx288_0)).trans hx288_0
                replace p288 := eq_true p288
                replace q288 := eq_true q288
                go_wp2
                repeat (go_quiet (fail); try go_wp2)
                go_ret
                exact ⟨by first | rfl | (simp [errW_none, errW_some] <;> rfl) | (simp [*, errW_none, errW_some] <;> rfl), by repeat (first | (with_reducible first | exact HB.out | apply below_alloc | apply pw_below_drewN | apply below_drew1 | refine below_set ?_ GE285.out | refine below_set ?_ GE286.out) | exact HB.out)⟩
            · rw [if_neg c11] at H
              exact absurd H (by simp)
          · rw [if_neg c10] at H
            exact absurd H (by simp)
        · rw [if_neg c9] at H
          have c9b0 : decide (x5_1 < (l0_8.length : Int)) = false := decide_eq_false c9
          clear c9
          by_cases c19 : a0_0 = a1_0
          · rw [if_pos c19] at H
            have c19b0 : (a0_0 == a1_0) = true := beq_iff_eq.mpr c19
            have c19b1 : (a0_0 != a1_0) = false := bne_eq_false_iff_eq.mpr c19
            clear c19
            by_cases c20 : a0_1 = a1_1
            · rw [if_pos c20] at H
              have c20b0 : (a0_1 == a1_1) = true := beq_iff_eq.mpr c20
              have c20b1 : (a0_1 != a1_1) = false := bne_eq_false_iff_eq.mpr c20
              clear c20
              by_cases c21 : a0_2 = a1_2
              · rw [if_pos c21] at H
                have c21b0 : (a0_2 == a1_2) = true := beq_iff_eq.mpr c21
                have c21b1 : (a0_2 != a1_2) = false := bne_eq_false_iff_eq.mpr c21
                clear c21
                by_cases c22 : a0_3 = a1_3
                · rw [if_pos c22] at H
                  have c22b0 : (a0_3 == a1_3) = true := beq_iff_eq.mpr c22
                  have c22b1 : (a0_3 != a1_3) = false := bne_eq_false_iff_eq.mpr c22
                  clear c22
                  by_cases c23 : a0_4 = a1_4
                  · rw [if_pos c23] at H
                    have c23b0 : (a0_4 == a1_4) = true := beq_iff_eq.mpr c23
                    have c23b1 : (a0_4 != a1_4) = false := bne_eq_false_iff_eq.mpr c23
                    clear c23
                    by_cases c24 : a0_5.toList = a1_5.toList
                    · rw [if_pos c24] at H
                      have c24b0 : (a0_5.toList == a1_5.toList) = true := beq_iff_eq.mpr c24
                      have c24b1 : (a0_5.toList != a1_5.toList) = false := bne_eq_false_iff_eq.mpr c24
                      clear c24
                      by_cases c25 : a0_6.toList = a1_6.toList
                      · rw [if_pos c25] at H
                        have c25b0 : (a0_6.toList == a1_6.toList) = true := beq_iff_eq.mpr c25
                        have c25b1 : (a0_6.toList != a1_6.toList) = false := bne_eq_false_iff_eq.mpr c25
                        clear c25
                        obtain rfl := Option.some.inj H
                        simp only [Option.some.injEq, Prod.mk.injEq] at H
                        obtain ⟨rfl⟩ := H
                        have hnb26 := NB285_286.out
                        have hnc26 := NB286_285.out
                        have hcz27_0 : wr.cell? ⟨gb285, 0, none⟩ = some (.int .i64 a0_0) := (blk_cell BK285.out 0).trans rfl
                        have hcz27_1 : wr.cell? ⟨gb285, 1, none⟩ = some (.int .i64 a0_1) := (blk_cell BK285.out 1).trans rfl
                        have hcz27_2 : wr.cell? ⟨gb285, 2, none⟩ = some (.int .i64 a0_2) := (blk_cell BK285.out 2).trans rfl
                        have hcz27_3 : wr.cell? ⟨gb285, 3, none⟩ = some (.int .i64 a0_3) := (blk_cell BK285.out 3).trans rfl
                        have hcz27_4 : wr.cell? ⟨gb285, 4, none⟩ = some (.int .i64 a0_4) := (blk_cell BK285.out 4).trans rfl
                        have hcz27_5 : wr.cell? ⟨gb285, 5, none⟩ = some (.string a0_5) := (blk_cell BK285.out 5).trans rfl
                        have hcz27_6 : wr.cell? ⟨gb285, 6, none⟩ = some (.string a0_6) := (blk_cell BK285.out 6).trans rfl
                        have hcz27_7 : wr.cell? ⟨gb285, 7, none⟩ = some (.string a0_7) := (blk_cell BK285.out 7).trans rfl
                        have hcz27_8 : wr.cell? ⟨gb285, 8, none⟩ = some (.slice A0_8 l0_8.length c0_8) := (blk_cell BK285.out 8).trans rfl
                        have hfz27_0 := blk_frozen BK285.out 0
                        have hfz27_1 := blk_frozen BK285.out 1
                        have hfz27_2 := blk_frozen BK285.out 2
                        have hfz27_3 := blk_frozen BK285.out 3
                        have hfz27_4 := blk_frozen BK285.out 4
                        have hfz27_5 := blk_frozen BK285.out 5
                        have hfz27_6 := blk_frozen BK285.out 6
                        have hfz27_7 := blk_frozen BK285.out 7
                        have hfz27_8 := blk_frozen BK285.out 8
                        have hcz28_0 : wr.cell? ⟨gb286, 0, none⟩ = some (.int .i64 a1_0) := (blk_cell BK286.out 0).trans rfl
                        have hcz28_1 : wr.cell? ⟨gb286, 1, none⟩ = some (.int .i64 a1_1) := (blk_cell BK286.out 1).trans rfl
                        have hcz28_2 : wr.cell? ⟨gb286, 2, none⟩ = some (.int .i64 a1_2) := (blk_cell BK286.out 2).trans rfl
                        have hcz28_3 : wr.cell? ⟨gb286, 3, none⟩ = some (.int .i64 a1_3) := (blk_cell BK286.out 3).trans rfl
                        have hcz28_4 : wr.cell? ⟨gb286, 4, none⟩ = some (.int .i64 a1_4) := (blk_cell BK286.out 4).trans rfl
                        have hcz28_5 : wr.cell? ⟨gb286, 5, none⟩ = some (.string a1_5) := (blk_cell BK286.out 5).trans rfl
                        have hcz28_6 : wr.cell? ⟨gb286, 6, none⟩ = some (.string a1_6) := (blk_cell BK286.out 6).trans rfl
                        have hcz28_7 : wr.cell? ⟨gb286, 7, none⟩ = some (.string a1_7) := (blk_cell BK286.out 7).trans rfl
                        have hcz28_8 : wr.cell? ⟨gb286, 8, none⟩ = some (.slice A1_8 l1_8.length c1_8) := (blk_cell BK286.out 8).trans rfl
                        have hfz28_0 := blk_frozen BK286.out 0
                        have hfz28_1 := blk_frozen BK286.out 1
                        have hfz28_2 := blk_frozen BK286.out 2
                        have hfz28_3 := blk_frozen BK286.out 3
                        have hfz28_4 := blk_frozen BK286.out 4
                        have hfz28_5 := blk_frozen BK286.out 5
                        have hfz28_6 := blk_frozen BK286.out 6
                        have hfz28_7 := blk_frozen BK286.out 7
                        have hfz28_8 := blk_frozen BK286.out 8
                        go_wp2
                        repeat (go_quiet (fail); try go_wp2)
                        go_ret
                        exact ⟨by first | rfl | (simp [errW_none, errW_some] <;> rfl) | (simp [*, errW_none, errW_some] <;> rfl), by repeat (first | (with_reducible first | exact HB.out | apply below_alloc | apply pw_below_drewN | apply below_drew1 | refine below_set ?_ GE285.out | refine below_set ?_ GE286.out) | exact HB.out)⟩
                      · rw [if_neg c25] at H
                        have c25b0 : (a0_6.toList == a1_6.toList) = false := beq_eq_false_iff_ne.mpr c25
                        have c25b1 : (a0_6.toList != a1_6.toList) = true := bne_iff_ne.mpr c25
                        obtain rfl := Option.some.inj H
                        simp only [Option.some.injEq, Prod.mk.injEq] at H
                        obtain ⟨rfl⟩ := H
                        have hnb29 := NB285_286.out
                        have hnc29 := NB286_285.out
                        have hcz30_0 : wr.cell? ⟨gb285, 0, none⟩ = some (.int .i64 a0_0) := (blk_cell BK285.out 0).trans rfl
                        have hcz30_1 : wr.cell? ⟨gb285, 1, none⟩ = some (.int .i64 a0_1) := (blk_cell BK285.out 1).trans rfl
                        have hcz30_2 : wr.cell? ⟨gb285, 2, none⟩ = some (.int .i64 a0_2) := (blk_cell BK285.out 2).trans rfl
                        have hcz30_3 : wr.cell? ⟨gb285, 3, none⟩ = some (.int .i64 a0_3) := (blk_cell BK285.out 3).trans rfl
                        have hcz30_4 : wr.cell? ⟨gb285, 4, none⟩ = some (.int .i64 a0_4) := (blk_cell BK285.out 4).trans rfl
                        have hcz30_5 : wr.cell? ⟨gb285, 5, none⟩ = some (.string a0_5) := (blk_cell BK285.out 5).trans rfl
                        have hcz30_6 : wr.cell? ⟨gb285, 6, none⟩ = some (.string a0_6) := (blk_cell BK285.out 6).trans rfl
                        have hcz30_7 : wr.cell? ⟨gb285, 7, none⟩ = some (.string a0_7) := (blk_cell BK285.out 7).trans rfl
                        have hcz30_8 : wr.cell? ⟨gb285, 8, none⟩ = some (.slice A0_8 l0_8.length c0_8) := (blk_cell BK285.out 8).trans rfl
                        have hfz30_0 := blk_frozen BK285.out 0
                        have hfz30_1 := blk_frozen BK285.out 1
                        have hfz30_2 := blk_frozen BK285.out 2
                        have hfz30_3 := blk_frozen BK285.out 3
                        have hfz30_4 := blk_frozen BK285.out 4
                        have hfz30_5 := blk_frozen BK285.out 5
                        have hfz30_6 := blk_frozen BK285.out 6
                        have hfz30_7 := blk_frozen BK285.out 7
                        have hfz30_8 := blk_frozen BK285.out 8
                        have hcz31_0 : wr.cell? ⟨gb286, 0, none⟩ = some (.int .i64 a1_0) := (blk_cell BK286.out 0).trans rfl
                        have hcz31_1 : wr.cell? ⟨gb286, 1, none⟩ = some (.int .i64 a1_1) := (blk_cell BK286.out 1).trans rfl
                        have hcz31_2 : wr.cell? ⟨gb286, 2, none⟩ = some (.int .i64 a1_2) := (blk_cell BK286.out 2).trans rfl
                        have hcz31_3 : wr.cell? ⟨gb286, 3, none⟩ = some (.int .i64 a1_3) := (blk_cell BK286.out 3).trans rfl
                        have hcz31_4 : wr.cell? ⟨gb286, 4, none⟩ = some (.int .i64 a1_4) := (blk_cell BK286.out 4).trans rfl
                        have hcz31_5 : wr.cell? ⟨gb286, 5, none⟩ = some (.string a1_5) := (blk_cell BK286.out 5).trans rfl
                        have hcz31_6 : wr.cell? ⟨gb286, 6, none⟩ = some (.string a1_6) := (blk_cell BK286.out 6).trans rfl
                        have hcz31_7 : wr.cell? ⟨gb286, 7, none⟩ = some (.string a1_7) := (blk_cell BK286.out 7).trans rfl
                        have hcz31_8 : wr.cell? ⟨gb286, 8, none⟩ = some (.slice A1_8 l1_8.length c1_8) := (blk_cell BK286.out 8).trans rfl
                        have hfz31_0 := blk_frozen BK286.out 0
                        have hfz31_1 := blk_frozen BK286.out 1
                        have hfz31_2 := blk_frozen BK286.out 2
                        have hfz31_3 := blk_frozen BK286.out 3
                        have hfz31_4 := blk_frozen BK286.out 4
                        have hfz31_5 := blk_frozen BK286.out 5
                        have hfz31_6 := blk_frozen BK286.out 6
                        have hfz31_7 := blk_frozen BK286.out 7
                        have hfz31_8 := blk_frozen BK286.out 8
                        go_wp2
                        repeat (go_quiet (fail); try go_wp2)
                        go_ret
                        exact ⟨by first | rfl | (simp [errW_none, errW_some] <;> rfl) | (simp [*, errW_none, errW_some] <;> rfl), by repeat (first | (with_reducible first | exact HB.out | apply below_alloc | apply pw_below_drewN | apply below_drew1 | refine below_set ?_ GE285.out | refine below_set ?_ GE286.out) | exact HB.out)⟩
                    · rw [if_neg c24] at H
                      have c24b0 : (a0_5.toList == a1_5.toList) = false := beq_eq_false_iff_ne.mpr c24
                      have c24b1 : (a0_5.toList != a1_5.toList) = true := bne_iff_ne.mpr c24
                      obtain rfl := Option.some.inj H
                      simp only [Option.some.injEq, Prod.mk.injEq] at H
                      obtain ⟨rfl⟩ := H
                      have hnb32 := NB285_286.out
                      have hnc32 := NB286_285.out
                      have hcz33_0 : wr.cell? ⟨gb285, 0, none⟩ = some (.int .i64 a0_0) := (blk_cell BK285.out 0).trans rfl
                      have hcz33_1 : wr.cell? ⟨gb285, 1, none⟩ = some (.int .i64 a0_1) := (blk_cell BK285.out 1).trans rfl
                      have hcz33_2 : wr.cell? ⟨gb285, 2, none⟩ = some (.int .i64 a0_2) := (blk_cell BK285.out 2).trans rfl
                      have hcz33_3 : wr.cell? ⟨gb285, 3, none⟩ = some (.int .i64 a0_3) := (blk_cell BK285.out 3).trans rfl
                      have hcz33_4 : wr.cell? ⟨gb285, 4, none⟩ = some (.int .i64 a0_4) := (blk_cell BK285.out 4).trans rfl
                      have hcz33_5 : wr.cell? ⟨gb285, 5, none⟩ = some (.string a0_5) := (blk_cell BK285.out 5).trans rfl
                      have hcz33_6 : wr.cell? ⟨gb285, 6, none⟩ = some (.string a0_6) := (blk_cell BK285.out 6).trans rfl
                      have hcz33_7 : wr.cell? ⟨gb285, 7, none⟩ = some (.string a0_7) := (blk_cell BK285.out 7).trans rfl
                      have hcz33_8 : wr.cell? ⟨gb285, 8, none⟩ = some (.slice A0_8 l0_8.length c0_8) := (blk_cell BK285.out 8).trans rfl
                      have hfz33_0 := blk_frozen BK285.out 0
                      have hfz33_1 := blk_frozen BK285.out 1
                      have hfz33_2 := blk_frozen BK285.out 2
                      have hfz33_3 := blk_frozen BK285.out 3
                      have hfz33_4 := blk_frozen BK285.out 4
                      have hfz33_5 := blk_frozen BK285.out 5
                      have hfz33_6 := blk_frozen BK285.out 6
                      have hfz33_7 := blk_frozen BK285.out 7
                      have hfz33_8 := blk_frozen BK285.out 8
                      have hcz34_0 : wr.cell? ⟨gb286, 0, none⟩ = some (.int .i64 a1_0) := (blk_cell BK286.out 0).trans rfl
                      have hcz34_1 : wr.cell? ⟨gb286, 1, none⟩ = some (.int .i64 a1_1) := (blk_cell BK286.out 1).trans rfl
                      have hcz34_2 : wr.cell? ⟨gb286, 2, none⟩ = some (.int .i64 a1_2) := (blk_cell BK286.out 2).trans rfl
                      have hcz34_3 : wr.cell? ⟨gb286, 3, none⟩ = some (.int .i64 a1_3) := (blk_cell BK286.out 3).trans rfl
                      have hcz34_4 : wr.cell? ⟨gb286, 4, none⟩ = some (.int .i64 a1_4) := (blk_cell BK286.out 4).trans rfl
                      have hcz34_5 : wr.cell? ⟨gb286, 5, none⟩ = some (.string a1_5) := (blk_cell BK286.out 5).trans rfl
                      have hcz34_6 : wr.cell? ⟨gb286, 6, none⟩ = some (.string a1_6) := (blk_cell BK286.out 6).trans rfl
                      have hcz34_7 : wr.cell? ⟨gb286, 7, none⟩ = some (.string a1_7) := (blk_cell BK286.out 7).trans rfl
                      have hcz34_8 : wr.cell? ⟨gb286, 8, none⟩ = some (.slice A1_8 l1_8.length c1_8) := (blk_cell BK286.out 8).trans rfl
                      have hfz34_0 := blk_frozen BK286.out 0
                      have hfz34_1 := blk_frozen BK286.out 1
                      have hfz34_2 := blk_frozen BK286.out 2
                      have hfz34_3 := blk_frozen BK286.out 3
                      have hfz34_4 := blk_frozen BK286.out 4
                      have hfz34_5 := blk_frozen BK286.out 5
                      have hfz34_6 := blk_frozen BK286.out 6
                      have hfz34_7 := blk_frozen BK286.out 7
                      have hfz34_8 := blk_frozen BK286.out 8
                      go_wp2
                      repeat (go_quiet (fail); try go_wp2)
                      go_ret
                      exact ⟨by first | rfl | (simp [errW_none, errW_some] <;> rfl) | (simp [*, errW_none, errW_some] <;> rfl), by repeat (first | (with_reducible first | exact HB.out | apply below_alloc | apply pw_below_drewN | apply below_drew1 | refine below_set ?_ GE285.out | refine below_set ?_ GE286.out) | exact HB.out)⟩
                  · rw [if_neg c23] at H
                    have c23b0 : (a0_4 == a1_4) = false := beq_eq_false_iff_ne.mpr c23
                    have c23b1 : (a0_4 != a1_4) = true := bne_iff_ne.mpr c23
                    obtain rfl := Option.some.inj H
                    simp only [Option.some.injEq, Prod.mk.injEq] at H
                    obtain ⟨rfl⟩ := H
                    have hnb35 := NB285_286.out
                    have hnc35 := NB286_285.out
                    have hcz36_0 : wr.cell? ⟨gb285, 0, none⟩ = some (.int .i64 a0_0) := (blk_cell BK285.out 0).trans rfl
                    have hcz36_1 : wr.cell? ⟨gb285, 1, none⟩ = some (.int .i64 a0_1) := (blk_cell BK285.out 1).trans rfl
                    have hcz36_2 : wr.cell? ⟨gb285, 2, none⟩ = some (.int .i64 a0_2) := (blk_cell BK285.out 2).trans rfl
                    have hcz36_3 : wr.cell? ⟨gb285, 3, none⟩ = some (.int .i64 a0_3) := (blk_cell BK285.out 3).trans rfl
                    have hcz36_4 : wr.cell? ⟨gb285, 4, none⟩ = some (.int .i64 a0_4) := (blk_cell BK285.out 4).trans rfl
                    have hcz36_5 : wr.cell? ⟨gb285, 5, none⟩ = some (.string a0_5) := (blk_cell BK285.out 5).trans rfl
                    have hcz36_6 : wr.cell? ⟨gb285, 6, none⟩ = some (.string a0_6) := (blk_cell BK285.out 6).trans rfl
                    have hcz36_7 : wr.cell? ⟨gb285, 7, none⟩ = some (.string a0_7) := (blk_cell BK285.out 7).trans rfl
                    have hcz36_8 : wr.cell? ⟨gb285, 8, none⟩ = some (.slice A0_8 l0_8.length c0_8) := (blk_cell BK285.out 8).trans rfl
                    have hfz36_0 := blk_frozen BK285.out 0
                    have hfz36_1 := blk_frozen BK285.out 1
                    have hfz36_2 := blk_frozen BK285.out 2
                    have hfz36_3 := blk_frozen BK285.out 3
                    have hfz36_4 := blk_frozen BK285.out 4
                    have hfz36_5 := blk_frozen BK285.out 5
                    have hfz36_6 := blk_frozen BK285.out 6
                    have hfz36_7 := blk_frozen BK285.out 7
                    have hfz36_8 := blk_frozen BK285.out 8
                    have hcz37_0 : wr.cell? ⟨gb286, 0, none⟩ = some (.int .i64 a1_0) := (blk_cell BK286.out 0).trans rfl
                    have hcz37_1 : wr.cell? ⟨gb286, 1, none⟩ = some (.int .i64 a1_1) := (blk_cell BK286.out 1).trans rfl
                    have hcz37_2 : wr.cell? ⟨gb286, 2, none⟩ = some (.int .i64 a1_2) := (blk_cell BK286.out 2).trans rfl
                    have hcz37_3 : wr.cell? ⟨gb286, 3, none⟩ = some (.int .i64 a1_3) := (blk_cell BK286.out 3).trans rfl
                    have hcz37_4 : wr.cell? ⟨gb286, 4, none⟩ = some (.int .i64 a1_4) := (blk_cell BK286.out 4).trans rfl
                    have hcz37_5 : wr.cell? ⟨gb286, 5, none⟩ = some (.string a1_5) := (blk_cell BK286.out 5).trans rfl
                    have hcz37_6 : wr.cell? ⟨gb286, 6, none⟩ = some (.string a1_6) := (blk_cell BK286.out 6).trans rfl
                    have hcz37_7 : wr.cell? ⟨gb286, 7, none⟩ = some (.string a1_7) := (blk_cell BK286.out 7).trans rfl
                    have hcz37_8 : wr.cell? ⟨gb286, 8, none⟩ = some (.slice A1_8 l1_8.length c1_8) := (blk_cell BK286.out 8).trans rfl
                    have hfz37_0 := blk_frozen BK286.out 0
                    have hfz37_1 := blk_frozen BK286.out 1
                    have hfz37_2 := blk_frozen BK286.out 2
                    have hfz37_3 := blk_frozen BK286.out 3
                    have hfz37_4 := blk_frozen BK286.out 4
                    have hfz37_5 := blk_frozen BK286.out 5
                    have hfz37_6 := blk_frozen BK286.out 6
                    have hfz37_7 := blk_frozen BK286.out 7
                    have hfz37_8 := blk_frozen BK286.out 8
                    go_wp2
                    repeat (go_quiet (fail); try go_wp2)
                    go_ret
                    exact ⟨by first | rfl | (simp [errW_none, errW_some] <;> rfl) | (simp [*, errW_none, errW_some] <;> rfl), by repeat (first | (with_reducible first | exact HB.out | apply below_alloc | apply pw_below_drewN | apply below_drew1 | refine below_set ?_ GE285.out | refine below_set ?_ GE286.out) | exact HB.out)⟩
                · rw [if_neg c22] at H
                  have c22b0 : (a0_3 == a1_3) = false := beq_eq_false_iff_ne.mpr c22
                  have c22b1 : (a0_3 != a1_3) = true := bne_iff_ne.mpr c22
                  obtain rfl := Option.some.inj H
                  simp only [Option.some.injEq, Prod.mk.injEq] at H
                  obtain ⟨rfl⟩ := H
                  have hnb38 := NB285_286.out
                  have hnc38 := NB286_285.out
                  have hcz39_0 : wr.cell? ⟨gb285, 0, none⟩ = some (.int .i64 a0_0) := (blk_cell BK285.out 0).trans rfl
                  have hcz39_1 : wr.cell? ⟨gb285, 1, none⟩ = some (.int .i64 a0_1) := (blk_cell BK285.out 1).trans rfl
                  have hcz39_2 : wr.cell? ⟨gb285, 2, none⟩ = some (.int .i64 a0_2) := (blk_cell BK285.out 2).trans rfl
                  have hcz39_3 : wr.cell? ⟨gb285, 3, none⟩ = some (.int .i64 a0_3) := (blk_cell BK285.out 3).trans rfl
                  have hcz39_4 : wr.cell? ⟨gb285, 4, none⟩ = some (.int .i64 a0_4) := (blk_cell BK285.out 4).trans rfl
                  have hcz39_5 : wr.cell? ⟨gb285, 5, none⟩ = some (.string a0_5) := (blk_cell BK285.out 5).trans rfl
                  have hcz39_6 : wr.cell? ⟨gb285, 6, none⟩ = some (.string a0_6) := (blk_cell BK285.out 6).trans rfl
                  have hcz39_7 : wr.cell? ⟨gb285, 7, none⟩ = some (.string a0_7) := (blk_cell BK285.out 7).trans rfl
                  have hcz39_8 : wr.cell? ⟨gb285, 8, none⟩ = some (.slice A0_8 l0_8.length c0_8) := (blk_cell BK285.out 8).trans rfl
                  have hfz39_0 := blk_frozen BK285.out 0
                  have hfz39_1 := blk_frozen BK285.out 1
                  have hfz39_2 := blk_frozen BK285.out 2
                  have hfz39_3 := blk_frozen BK285.out 3
                  have hfz39_4 := blk_frozen BK285.out 4
                  have hfz39_5 := blk_frozen BK285.out 5
                  have hfz39_6 := blk_frozen BK285.out 6
                  have hfz39_7 := blk_frozen BK285.out 7
                  have hfz39_8 := blk_frozen BK285.out 8
                  have hcz40_0 : wr.cell? ⟨gb286, 0, none⟩ = some (.int .i64 a1_0) := (blk_cell BK286.out 0).trans rfl
                  have hcz40_1 : wr.cell? ⟨gb286, 1, none⟩ = some (.int .i64 a1_1) := (blk_cell BK286.out 1).trans rfl
                  have hcz40_2 : wr.cell? ⟨gb286, 2, none⟩ = some (.int .i64 a1_2) := (blk_cell BK286.out 2).trans rfl
                  have hcz40_3 : wr.cell? ⟨gb286, 3, none⟩ = some (.int .i64 a1_3) := (blk_cell BK286.out 3).trans rfl
                  have hcz40_4 : wr.cell? ⟨gb286, 4, none⟩ = some (.int .i64 a1_4) := (blk_cell BK286.out 4).trans rfl
                  have hcz40_5 : wr.cell? ⟨gb286, 5, none⟩ = some (.string a1_5) := (blk_cell BK286.out 5).trans rfl
                  have hcz40_6 : wr.cell? ⟨gb286, 6, none⟩ = some (.string a1_6) := (blk_cell BK286.out 6).trans rfl
                  have hcz40_7 : wr.cell? ⟨gb286, 7, none⟩ = some (.string a1_7) := (blk_cell BK286.out 7).trans rfl
                  have hcz40_8 : wr.cell? ⟨gb286, 8, none⟩ = some (.slice A1_8 l1_8.length c1_8) := (blk_cell BK286.out 8).trans rfl
                  have hfz40_0 := blk_frozen BK286.out 0
                  have hfz40_1 := blk_frozen BK286.out 1
                  have hfz40_2 := blk_frozen BK286.out 2
                  have hfz40_3 := blk_frozen BK286.out 3
                  have hfz40_4 := blk_frozen BK286.out 4
                  have hfz40_5 := blk_frozen BK286.out 5
                  have hfz40_6 := blk_frozen BK286.out 6
                  have hfz40_7 := blk_frozen BK286.out 7
                  have hfz40_8 := blk_frozen BK286.out 8
                  go_wp2
                  repeat (go_quiet (fail); try go_wp2)
                  go_ret
                  exact ⟨by first | rfl | (simp [errW_none, errW_some] <;> rfl) | (simp [*, errW_none, errW_some] <;> rfl), by repeat (first | (with_reducible first | exact HB.out | apply below_alloc | apply pw_below_drewN | apply below_drew1 | refine below_set ?_ GE285.out | refine below_set ?_ GE286.out) | exact HB.out)⟩
              · rw [if_neg c21] at H
                have c21b0 : (a0_2 == a1_2) = false := beq_eq_false_iff_ne.mpr c21
                have c21b1 : (a0_2 != a1_2) = true := bne_iff_ne.mpr c21
                obtain rfl := Option.some.inj H
                simp only [Option.some.injEq, Prod.mk.injEq] at H
                obtain ⟨rfl⟩ := H
                have hnb41 := NB285_286.out
                have hnc41 := NB286_285.out
                have hcz42_0 : wr.cell? ⟨gb285, 0, none⟩ = some (.int .i64 a0_0) := (blk_cell BK285.out 0).trans rfl
                have hcz42_1 : wr.cell? ⟨gb285, 1, none⟩ = some (.int .i64 a0_1) := (blk_cell BK285.out 1).trans rfl
                have hcz42_2 : wr.cell? ⟨gb285, 2, none⟩ = some (.int .i64 a0_2) := (blk_cell BK285.out 2).trans rfl
                have hcz42_3 : wr.cell? ⟨gb285, 3, none⟩ = some (.int .i64 a0_3) := (blk_cell BK285.out 3).trans rfl
                have hcz42_4 : wr.cell? ⟨gb285, 4, none⟩ = some (.int .i64 a0_4) := (blk_cell BK285.out 4).trans rfl
                have hcz42_5 : wr.cell? ⟨gb285, 5, none⟩ = some (.string a0_5) := (blk_cell BK285.out 5).trans rfl
                have hcz42_6 : wr.cell? ⟨gb285, 6, none⟩ = some (.string a0_6) := (blk_cell BK285.out 6).trans rfl
                have hcz42_7 : wr.cell? ⟨gb285, 7, none⟩ = some (.string a0_7) := (blk_cell BK285.out 7).trans rfl
                have hcz42_8 : wr.cell? ⟨gb285, 8, none⟩ = some (.slice A0_8 l0_8.length c0_8) := (blk_cell BK285.out 8).trans rfl
                have hfz42_0 := blk_frozen BK285.out 0
                have hfz42_1 := blk_frozen BK285.out 1
                have hfz42_2 := blk_frozen BK285.out 2
                have hfz42_3 := blk_frozen BK285.out 3
                have hfz42_4 := blk_frozen BK285.out 4
                have hfz42_5 := blk_frozen BK285.out 5
                have hfz42_6 := blk_frozen BK285.out 6
                have hfz42_7 := blk_frozen BK285.out 7
                have hfz42_8 := blk_frozen BK285.out 8
                have hcz43_0 : wr.cell? ⟨gb286, 0, none⟩ = some (.int .i64 a1_0) := (blk_cell BK286.out 0).trans rfl
                have hcz43_1 : wr.cell? ⟨gb286, 1, none⟩ = some (.int .i64 a1_1) := (blk_cell BK286.out 1).trans rfl
                have hcz43_2 : wr.cell? ⟨gb286, 2, none⟩ = some (.int .i64 a1_2) := (blk_cell BK286.out 2).trans rfl
                have hcz43_3 : wr.cell? ⟨gb286, 3, none⟩ = some (.int .i64 a1_3) := (blk_cell BK286.out 3).trans rfl
                have hcz43_4 : wr.cell? ⟨gb286, 4, none⟩ = some (.int .i64 a1_4) := (blk_cell BK286.out 4).trans rfl
                have hcz43_5 : wr.cell? ⟨gb286, 5, none⟩ = some (.string a1_5) := (blk_cell BK286.out 5).trans rfl
                have hcz43_6 : wr.cell? ⟨gb286, 6, none⟩ = some (.string a1_6) := (blk_cell BK286.out 6).trans rfl
                have hcz43_7 : wr.cell? ⟨gb286, 7, none⟩ = some (.string a1_7) := (blk_cell BK286.out 7).trans rfl
                have hcz43_8 : wr.cell? ⟨gb286, 8, none⟩ = some (.slice A1_8 l1_8.length c1_8) := (blk_cell BK286.out 8).trans rfl
                have hfz43_0 := blk_frozen BK286.out 0
                have hfz43_1 := blk_frozen BK286.out 1
                have hfz43_2 := blk_frozen BK286.out 2
                have hfz43_3 := blk_frozen BK286.out 3
                have hfz43_4 := blk_frozen BK286.out 4
                have hfz43_5 := blk_frozen BK286.out 5
                have hfz43_6 := blk_frozen BK286.out 6
                have hfz43_7 := blk_frozen BK286.out 7
                have hfz43_8 := blk_frozen BK286.out 8
                go_wp2
                repeat (go_quiet (fail); try go_wp2)
                go_ret
                exact ⟨by first | rfl | (simp [errW_none, errW_some] <;> rfl) | (simp [*, errW_none, errW_some] <;> rfl), by repeat (first | (with_reducible first | exact HB.out | apply below_alloc | apply pw_below_drewN | apply below_drew1 | refine below_set ?_ GE285.out | refine below_set ?_ GE286.out) | exact HB.out)⟩
            · rw [if_neg c20] at H
              have c20b0 : (a0_1 == a1_1) = false := beq_eq_false_iff_ne.mpr c20
              have c20b1 : (a0_1 != a1_1) = true := bne_iff_ne.mpr c20
              obtain rfl := Option.some.inj H
              simp only [Option.some.injEq, Prod.mk.injEq] at H
              obtain ⟨rfl⟩ := H
              have hnb44 := NB285_286.out
              have hnc44 := NB286_285.out
              have hcz45_0 : wr.cell? ⟨gb285, 0, none⟩ = some (.int .i64 a0_0) := (blk_cell BK285.out 0).trans rfl
              have hcz45_1 : wr.cell? ⟨gb285, 1, none⟩ = some (.int .i64 a0_1) := (blk_cell BK285.out 1).trans rfl
              have hcz45_2 : wr.cell? ⟨gb285, 2, none⟩ = some (.int .i64 a0_2) := (blk_cell BK285.out 2).trans rfl
              have hcz45_3 : wr.cell? ⟨gb285, 3, none⟩ = some (.int .i64 a0_3) := (blk_cell BK285.out 3).trans rfl
              have hcz45_4 : wr.cell? ⟨gb285, 4, none⟩ = some (.int .i64 a0_4) := (blk_cell BK285.out 4).trans rfl
              have hcz45_5 : wr.cell? ⟨gb285, 5, none⟩ = some (.string a0_5) := (blk_cell BK285.out 5).trans rfl
              have hcz45_6 : wr.cell? ⟨gb285, 6, none⟩ = some (.string a0_6) := (blk_cell BK285.out 6).trans rfl
              have hcz45_7 : wr.cell? ⟨gb285, 7, none⟩ = some (.string a0_7) := (blk_cell BK285.out 7).trans rfl
              have hcz45_8 : wr.cell? ⟨gb285, 8, none⟩ = some (.slice A0_8 l0_8.length c0_8) := (blk_cell BK285.out 8).trans rfl
              have hfz45_0 := blk_frozen BK285.out 0
              have hfz45_1 := blk_frozen BK285.out 1
              have hfz45_2 := blk_frozen BK285.out 2
              have hfz45_3 := blk_frozen BK285.out 3
              have hfz45_4 := blk_frozen BK285.out 4
              have hfz45_5 := blk_frozen BK285.out 5
              have hfz45_6 := blk_frozen BK285.out 6
              have hfz45_7 := blk_frozen BK285.out 7
              have hfz45_8 := blk_frozen BK285.out 8
              have hcz46_0 : wr.cell? ⟨gb286, 0, none⟩ = some (.int .i64 a1_0) := (blk_cell BK286.out 0).trans rfl
              have hcz46_1 : wr.cell? ⟨gb286, 1, none⟩ = some (.int .i64 a1_1) := (blk_cell BK286.out 1).trans rfl
              have hcz46_2 : wr.cell? ⟨gb286, 2, none⟩ = some (.int .i64 a1_2) := (blk_cell BK286.out 2).trans rfl
              have hcz46_3 : wr.cell? ⟨gb286, 3, none⟩ = some (.int .i64 a1_3) := (blk_cell BK286.out 3).trans rfl
              have hcz46_4 : wr.cell? ⟨gb286, 4, none⟩ = some (.int .i64 a1_4) := (blk_cell BK286.out 4).trans rfl
              have hcz46_5 : wr.cell? ⟨gb286, 5, none⟩ = some (.string a1_5) := (blk_cell BK286.out 5).trans rfl
              have hcz46_6 : wr.cell? ⟨gb286, 6, none⟩ = some (.string a1_6) := (blk_cell BK286.out 6).trans rfl
              have hcz46_7 : wr.cell? ⟨gb286, 7, none⟩ = some (.string a1_7) := (blk_cell BK286.out 7).trans rfl
              have hcz46_8 : wr.cell? ⟨gb286, 8, none⟩ = some (.slice A1_8 l1_8.length c1_8) := (blk_cell BK286.out 8).trans rfl
              have hfz46_0 := blk_frozen BK286.out 0
              have hfz46_1 := blk_frozen BK286.out 1
              have hfz46_2 := blk_frozen BK286.out 2
              have hfz46_3 := blk_frozen BK286.out 3
              have hfz46_4 := blk_frozen BK286.out 4
              have hfz46_5 := blk_frozen BK286.out 5
              have hfz46_6 := blk_frozen BK286.out 6
              have hfz46_7 := blk_frozen BK286.out 7
              have hfz46_8 := blk_frozen BK286.out 8
              go_wp2
              repeat (go_quiet (fail); try go_wp2)
              go_ret
              exact ⟨by first | rfl | (simp [errW_none, errW_some] <;> rfl) | (simp [*, errW_none, errW_some] <;> rfl), by repeat (first | (with_reducible first | exact HB.out | apply below_alloc | apply pw_below_drewN | apply below_drew1 | refine below_set ?_ GE285.out | refine below_set ?_ GE286.out) | exact HB.out)⟩
          · rw [if_neg c19] at H
            have c19b0 : (a0_0 == a1_0) = false := beq_eq_false_iff_ne.mpr c19
            have c19b1 : (a0_0 != a1_0) = true := bne_iff_ne.mpr c19
            obtain rfl := Option.some.inj H
            simp only [Option.some.injEq, Prod.mk.injEq] at H
            obtain ⟨rfl⟩ := H
            have hnb47 := NB285_286.out
            have hnc47 := NB286_285.out
            have hcz48_0 : wr.cell? ⟨gb285, 0, none⟩ = some (.int .i64 a0_0) := (blk_cell BK285.out 0).trans rfl
            have hcz48_1 : wr.cell? ⟨gb285, 1, none⟩ = some (.int .i64 a0_1) := (blk_cell BK285.out 1).trans rfl
            have hcz48_2 : wr.cell? ⟨gb285, 2, none⟩ = some (.int .i64 a0_2) := (blk_cell BK285.out 2).trans rfl
            have hcz48_3 : wr.cell? ⟨gb285, 3, none⟩ = some (.int .i64 a0_3) := (blk_cell BK285.out 3).trans rfl
            have hcz48_4 : wr.cell? ⟨gb285, 4, none⟩ = some (.int .i64 a0_4) := (blk_cell BK285.out 4).trans rfl
            have hcz48_5 : wr.cell? ⟨gb285, 5, none⟩ = some (.string a0_5) := (blk_cell BK285.out 5).trans rfl
            have hcz48_6 : wr.cell? ⟨gb285, 6, none⟩ = some (.string a0_6) := (blk_cell BK285.out 6).trans rfl
            have hcz48_7 : wr.cell? ⟨gb285, 7, none⟩ = some (.string a0_7) := (blk_cell BK285.out 7).trans rfl
            have hcz48_8 : wr.cell? ⟨gb285, 8, none⟩ = some (.slice A0_8 l0_8.length c0_8) := (blk_cell BK285.out 8).trans rfl
            have hfz48_0 := blk_frozen BK285.out 0
            have hfz48_1 := blk_frozen BK285.out 1
            have hfz48_2 := blk_frozen BK285.out 2
            have hfz48_3 := blk_frozen BK285.out 3
            have hfz48_4 := blk_frozen BK285.out 4
            have hfz48_5 := blk_frozen BK285.out 5
            have hfz48_6 := blk_frozen BK285.out 6
            have hfz48_7 := blk_frozen BK285.out 7
            have hfz48_8 := blk_frozen BK285.out 8
            have hcz49_0 : wr.cell? ⟨gb286, 0, none⟩ = some (.int .i64 a1_0) := (blk_cell BK286.out 0).trans rfl
            have hcz49_1 : wr.cell? ⟨gb286, 1, none⟩ = some (.int .i64 a1_1) := (blk_cell BK286.out 1).trans rfl
            have hcz49_2 : wr.cell? ⟨gb286, 2, none⟩ = some (.int .i64 a1_2) := (blk_cell BK286.out 2).trans rfl
            have hcz49_3 : wr.cell? ⟨gb286, 3, none⟩ = some (.int .i64 a1_3) := (blk_cell BK286.out 3).trans rfl
            have hcz49_4 : wr.cell? ⟨gb286, 4, none⟩ = some (.int .i64 a1_4) := (blk_cell BK286.out 4).trans rfl
            have hcz49_5 : wr.cell? ⟨gb286, 5, none⟩ = some (.string a1_5) := (blk_cell BK286.out 5).trans rfl
            have hcz49_6 : wr.cell? ⟨gb286, 6, none⟩ = some (.string a1_6) := (blk_cell BK286.out 6).trans rfl
            have hcz49_7 : wr.cell? ⟨gb286, 7, none⟩ = some (.string a1_7) := (blk_cell BK286.out 7).trans rfl
            have hcz49_8 : wr.cell? ⟨gb286, 8, none⟩ = some (.slice A1_8 l1_8.length c1_8) := (blk_cell BK286.out 8).trans rfl
            have hfz49_0 := blk_frozen BK286.out 0
            have hfz49_1 := blk_frozen BK286.out 1
            have hfz49_2 := blk_frozen BK286.out 2
            have hfz49_3 := blk_frozen BK286.out 3
            have hfz49_4 := blk_frozen BK286.out 4
            have hfz49_5 := blk_frozen BK286.out 5
            have hfz49_6 := blk_frozen BK286.out 6
            have hfz49_7 := blk_frozen BK286.out 7
            have hfz49_8 := blk_frozen BK286.out 8
            go_wp2
            repeat (go_quiet (fail); try go_wp2)
            go_ret
            exact ⟨by first | rfl | (simp [errW_none, errW_some] <;> rfl) | (simp [*, errW_none, errW_some] <;> rfl), by repeat (first | (with_reducible first | exact HB.out | apply below_alloc | apply pw_below_drewN | apply below_drew1 | refine below_set ?_ GE285.out | refine below_set ?_ GE286.out) | exact HB.out)⟩
  · rw [if_neg c3] at H
    have c3b0 : ((l0_8.length : Int) == (l1_8.length : Int)) = false := beq_eq_false_iff_ne.mpr c3
    have c3b1 : ((l0_8.length : Int) != (l1_8.length : Int)) = true := bne_iff_ne.mpr c3
    have c3b2 : (l0_8.length == l1_8.length) = false := by first | simpa using c3 | (simp at c3 ⊢; omega)
    obtain rfl := Option.some.inj H
    simp only [Option.some.injEq, Prod.mk.injEq] at H
    obtain ⟨rfl⟩ := H
    go_enter Tryd.func31, Tryd.ntmps31
    go_wp2_with (first | ((with_reducible refine gate_dst (N := 2) rfl ?_); refine box_event ?hg (N := 2) ?hd (cs := #[.int .i64 a0_0, .int .i64 a0_1, .int .i64 a0_2, .int .i64 a0_3, .int .i64 a0_4, .string a0_5, .string a0_6, .string a0_7, .slice A0_8 l0_8.length c0_8]) (t := 44) ?hr ?_; (case hd => rfl); (case hg => rfl); (case hr => first | (go_simp; done) | (go_simp; rfl)); intro gb285 hg w50 hbox hb; have n0_ := Aside0.mk (below_step (by repeat (first | (with_reducible first | exact HB.out | apply below_alloc | apply pw_below_drewN | apply below_drew1) | exact HB.out)) hb); have n1_ := Aside0.mk (hbox); have n2_ := Aside0.mk ((by rw [hg]; exact (below_size (by repeat (first | (with_reducible first | exact HB.out | apply below_alloc | apply pw_below_drewN | apply below_drew1) | exact HB.out))) : w.heap.size ≤ gb285)); have n3_ := Aside0.mk ((by rw [hg]; exact (below_size (by repeat (first | (with_reducible first | exact HB.out | apply below_alloc | apply pw_below_drewN | apply below_drew1) | exact HB.out))) : w.heap.size ≤ gb285)); clear HB; have HB := n0_; have BK285 := n1_; have GW285 := n2_; have GE285 := n3_; clear n0_ n1_ n2_ n3_; clear hb hbox hg) | ((with_reducible refine gate_dst (N := 3) rfl ?_); refine box_event ?hg (N := 3) ?hd (cs := #[.int .i64 a1_0, .int .i64 a1_1, .int .i64 a1_2, .int .i64 a1_3, .int .i64 a1_4, .string a1_5, .string a1_6, .string a1_7, .slice A1_8 l1_8.length c1_8]) (t := 44) ?hr ?_; (case hd => rfl); (case hg => rfl); (case hr => first | (go_simp; done) | (go_simp; rfl)); intro gb286 hg w51 hbox hb; have n0_ := Aside0.mk (blk_below (g := gb285) (o := .cells #[.int .i64 a0_0, .int .i64 a0_1, .int .i64 a0_2, .int .i64 a0_3, .int .i64 a0_4, .string a0_5, .string a0_6, .string a0_7, .slice A0_8 l0_8.length c0_8] 44 (0, 0)) (by (with_reducible repeat (first | refine blk_drewN ?_ _ | refine blk_drew ?_ | refine blk_alloc ?_ _)); exact BK285.out) hb); have n1_ := Aside0.mk (below_step (by repeat (first | (with_reducible first | exact HB.out | apply below_alloc | apply pw_below_drewN | apply below_drew1 | refine below_set ?_ GE285.out) | exact HB.out)) hb); have n2_ := Aside0.mk (hbox); have n3_ := Aside0.mk ((by rw [hg]; exact (below_size (by repeat (first | (with_reducible first | exact HB.out | apply below_alloc | apply pw_below_drewN | apply below_drew1 | refine below_set ?_ GE285.out) | exact HB.out))) : w.heap.size ≤ gb286)); have n4_ := Aside0.mk ((by rw [hg]; exact (below_size (by repeat (first | (with_reducible first | exact HB.out | apply below_alloc | apply pw_below_drewN | apply below_drew1 | refine below_set ?_ GE285.out) | exact HB.out))) : w.heap.size ≤ gb286)); have n5_ := Aside0.mk ((by rw [hg]; exact Nat.ne_of_lt (blk_lt (g := gb285) (o := .cells #[.int .i64 a0_0, .int .i64 a0_1, .int .i64 a0_2, .int .i64 a0_3, .int .i64 a0_4, .string a0_5, .string a0_6, .string a0_7, .slice A0_8 l0_8.length c0_8] 44 (0, 0)) (by (with_reducible repeat (first | refine blk_drewN ?_ _ | refine blk_drew ?_ | refine blk_alloc ?_ _)); exact BK285.out)) : gb285 ≠ gb286)); have n6_ := Aside0.mk ((by rw [hg]; exact Nat.ne_of_gt (blk_lt (g := gb285) (o := .cells #[.int .i64 a0_0, .int .i64 a0_1, .int .i64 a0_2, .int .i64 a0_3, .int .i64 a0_4, .string a0_5, .string a0_6, .string a0_7, .slice A0_8 l0_8.length c0_8] 44 (0, 0)) (by (with_reducible repeat (first | refine blk_drewN ?_ _ | refine blk_drew ?_ | refine blk_alloc ?_ _)); exact BK285.out)) : gb286 ≠ gb285)); clear BK285; clear HB; have BK285 := n0_; have HB := n1_; have BK286 := n2_; have GW286 := n3_; have GE286 := n4_; have NB285_286 := n5_; have NB286_285 := n6_; clear n0_ n1_ n2_ n3_ n4_ n5_ n6_; clear hb hbox hg; have hnb52 := NB285_286.out; have hnc52 := NB286_285.out; have hcz53_0 : w51.cell? ⟨gb285, 0, none⟩ = some (.int .i64 a0_0) := (blk_cell BK285.out 0).trans rfl; have hcz53_1 : w51.cell? ⟨gb285, 1, none⟩ = some (.int .i64 a0_1) := (blk_cell BK285.out 1).trans rfl; have hcz53_2 : w51.cell? ⟨gb285, 2, none⟩ = some (.int .i64 a0_2) := (blk_cell BK285.out 2).trans rfl; have hcz53_3 : w51.cell? ⟨gb285, 3, none⟩ = some (.int .i64 a0_3) := (blk_cell BK285.out 3).trans rfl; have hcz53_4 : w51.cell? ⟨gb285, 4, none⟩ = some (.int .i64 a0_4) := (blk_cell BK285.out 4).trans rfl; have hcz53_5 : w51.cell? ⟨gb285, 5, none⟩ = some (.string a0_5) := (blk_cell BK285.out 5).trans rfl; have hcz53_6 : w51.cell? ⟨gb285, 6, none⟩ = some (.string a0_6) := (blk_cell BK285.out 6).trans rfl; have hcz53_7 : w51.cell? ⟨gb285, 7, none⟩ = some (.string a0_7) := (blk_cell BK285.out 7).trans rfl; have hcz53_8 : w51.cell? ⟨gb285, 8, none⟩ = some (.slice A0_8 l0_8.length c0_8) := (blk_cell BK285.out 8).trans rfl; have hfz53_0 := blk_frozen BK285.out 0; have hfz53_1 := blk_frozen BK285.out 1; have hfz53_2 := blk_frozen BK285.out 2; have hfz53_3 := blk_frozen BK285.out 3; have hfz53_4 := blk_frozen BK285.out 4; have hfz53_5 := blk_frozen BK285.out 5; have hfz53_6 := blk_frozen BK285.out 6; have hfz53_7 := blk_frozen BK285.out 7; have hfz53_8 := blk_frozen BK285.out 8; have hcz54_0 : w51.cell? ⟨gb286, 0, none⟩ = some (.int .i64 a1_0) := (blk_cell BK286.out 0).trans rfl; have hcz54_1 : w51.cell? ⟨gb286, 1, none⟩ = some (.int .i64 a1_1) := (blk_cell BK286.out 1).trans rfl; have hcz54_2 : w51.cell? ⟨gb286, 2, none⟩ = some (.int .i64 a1_2) := (blk_cell BK286.out 2).trans rfl; have hcz54_3 : w51.cell? ⟨gb286, 3, none⟩ = some (.int .i64 a1_3) := (blk_cell BK286.out 3).trans rfl; have hcz54_4 : w51.cell? ⟨gb286, 4, none⟩ = some (.int .i64 a1_4) := (blk_cell BK286.out 4).trans rfl; have hcz54_5 : w51.cell? ⟨gb286, 5, none⟩ = some (.string a1_5) := (blk_cell BK286.out 5).trans rfl; have hcz54_6 : w51.cell? ⟨gb286, 6, none⟩ = some (.string a1_6) := (blk_cell BK286.out 6).trans rfl; have hcz54_7 : w51.cell? ⟨gb286, 7, none⟩ = some (.string a1_7) := (blk_cell BK286.out 7).trans rfl; have hcz54_8 : w51.cell? ⟨gb286, 8, none⟩ = some (.slice A1_8 l1_8.length c1_8) := (blk_cell BK286.out 8).trans rfl; have hfz54_0 := blk_frozen BK286.out 0; have hfz54_1 := blk_frozen BK286.out 1; have hfz54_2 := blk_frozen BK286.out 2; have hfz54_3 := blk_frozen BK286.out 3; have hfz54_4 := blk_frozen BK286.out 4; have hfz54_5 := blk_frozen BK286.out 5; have hfz54_6 := blk_frozen BK286.out 6; have hfz54_7 := blk_frozen BK286.out 7; have hfz54_8 := blk_frozen BK286.out 8))
    repeat (go_quiet (first | ((with_reducible refine gate_dst (N := 2) rfl ?_); refine box_event ?hg (N := 2) ?hd (cs := #[.int .i64 a0_0, .int .i64 a0_1, .int .i64 a0_2, .int .i64 a0_3, .int .i64 a0_4, .string a0_5, .string a0_6, .string a0_7, .slice A0_8 l0_8.length c0_8]) (t := 44) ?hr ?_; (case hd => rfl); (case hg => rfl); (case hr => first | (go_simp; done) | (go_simp; rfl)); intro gb285 hg w50 hbox hb; have n0_ := Aside0.mk (below_step (by repeat (first | (with_reducible first | exact HB.out | apply below_alloc | apply pw_below_drewN | apply below_drew1) | exact HB.out)) hb); have n1_ := Aside0.mk (hbox); have n2_ := Aside0.mk ((by rw [hg]; exact (below_size (by repeat (first | (with_reducible first | exact HB.out | apply below_alloc | apply pw_below_drewN | apply below_drew1) | exact HB.out))) : w.heap.size ≤ gb285)); have n3_ := Aside0.mk ((by rw [hg]; exact (below_size (by repeat (first | (with_reducible first | exact HB.out | apply below_alloc | apply pw_below_drewN | apply below_drew1) | exact HB.out))) : w.heap.size ≤ gb285)); clear HB; have HB := n0_; have BK285 := n1_; have GW285 := n2_; have GE285 := n3_; clear n0_ n1_ n2_ n3_; clear hb hbox hg) | ((with_reducible refine gate_dst (N := 3) rfl ?_); refine box_event ?hg (N := 3) ?hd (cs := #[.int .i64 a1_0, .int .i64 a1_1, .int .i64 a1_2, .int .i64 a1_3, .int .i64 a1_4, .string a1_5, .string a1_6, .string a1_7, .slice A1_8 l1_8.length c1_8]) (t := 44) ?hr ?_; (case hd => rfl); (case hg => rfl); (case hr => first | (go_simp; done) | (go_simp; rfl)); intro gb286 hg w51 hbox hb; have n0_ := Aside0.mk (blk_below (g := gb285) (o := .cells #[.int .i64 a0_0, .int .i64 a0_1, .int .i64 a0_2, .int .i64 a0_3, .int .i64 a0_4, .string a0_5, .string a0_6, .string a0_7, .slice A0_8 l0_8.length c0_8] 44 (0, 0)) (by (with_reducible repeat (first | refine blk_drewN ?_ _ | refine blk_drew ?_ | refine blk_alloc ?_ _)); exact BK285.out) hb); have n1_ := Aside0.mk (below_step (by repeat (first | (with_reducible first | exact HB.out | apply below_alloc | apply pw_below_drewN | apply below_drew1 | refine below_set ?_ GE285.out) | exact HB.out)) hb); have n2_ := Aside0.mk (hbox); have n3_ := Aside0.mk ((by rw [hg]; exact (below_size (by repeat (first | (with_reducible first | exact HB.out | apply below_alloc | apply pw_below_drewN | apply below_drew1 | refine below_set ?_ GE285.out) | exact HB.out))) : w.heap.size ≤ gb286)); have n4_ := Aside0.mk ((by rw [hg]; exact (below_size (by repeat (first | (with_reducible first | exact HB.out | apply below_alloc | apply pw_below_drewN | apply below_drew1 | refine below_set ?_ GE285.out) | exact HB.out))) : w.heap.size ≤ gb286)); have n5_ := Aside0.mk ((by rw [hg]; exact Nat.ne_of_lt (blk_lt (g := gb285) (o := .cells #[.int .i64 a0_0, .int .i64 a0_1, .int .i64 a0_2, .int .i64 a0_3, .int .i64 a0_4, .string a0_5, .string a0_6, .string a0_7, .slice A0_8 l0_8.length c0_8] 44 (0, 0)) (by (with_reducible repeat (first | refine blk_drewN ?_ _ | refine blk_drew ?_ | refine blk_alloc ?_ _)); exact BK285.out)) : gb285 ≠ gb286)); have n6_ := Aside0.mk ((by rw [hg]; exact Nat.ne_of_gt (blk_lt (g := gb285) (o := .cells #[.int .i64 a0_0, .int .i64 a0_1, .int .i64 a0_2, .int .i64 a0_3, .int .i64 a0_4, .string a0_5, .string a0_6, .string a0_7, .slice A0_8 l0_8.length c0_8] 44 (0, 0)) (by (with_reducible repeat (first | refine blk_drewN ?_ _ | refine blk_drew ?_ | refine blk_alloc ?_ _)); exact BK285.out)) : gb286 ≠ gb285)); clear BK285; clear HB; have BK285 := n0_; have HB := n1_; have BK286 := n2_; have GW286 := n3_; have GE286 := n4_; have NB285_286 := n5_; have NB286_285 := n6_; clear n0_ n1_ n2_ n3_ n4_ n5_ n6_; clear hb hbox hg; have hnb52 := NB285_286.out; have hnc52 := NB286_285.out; have hcz53_0 : w51.cell? ⟨gb285, 0, none⟩ = some (.int .i64 a0_0) := (blk_cell BK285.out 0).trans rfl; have hcz53_1 : w51.cell? ⟨gb285, 1, none⟩ = some (.int .i64 a0_1) := (blk_cell BK285.out 1).trans rfl; have hcz53_2 : w51.cell? ⟨gb285, 2, none⟩ = some (.int .i64 a0_2) := (blk_cell BK285.out 2).trans rfl; have hcz53_3 : w51.cell? ⟨gb285, 3, none⟩ = some (.int .i64 a0_3) := (blk_cell BK285.out 3).trans rfl; have hcz53_4 : w51.cell? ⟨gb285, 4, none⟩ = some (.int .i64 a0_4) := (blk_cell BK285.out 4).trans rfl; have hcz53_5 : w51.cell? ⟨gb285, 5, none⟩ = some (.string a0_5) := (blk_cell BK285.out 5).trans rfl; have hcz53_6 : w51.cell? ⟨gb285, 6, none⟩ = some (.string a0_6) := (blk_cell BK285.out 6).trans rfl; have hcz53_7 : w51.cell? ⟨gb285, 7, none⟩ = some (.string a0_7) := (blk_cell BK285.out 7).trans rfl; have hcz53_8 : w51.cell? ⟨gb285, 8, none⟩ = some (.slice A0_8 l0_8.length c0_8) := (blk_cell BK285.out 8).trans rfl; have hfz53_0 := blk_frozen BK285.out 0; have hfz53_1 := blk_frozen BK285.out 1; have hfz53_2 := blk_frozen BK285.out 2; have hfz53_3 := blk_frozen BK285.out 3; have hfz53_4 := blk_frozen BK285.out 4; have hfz53_5 := blk_frozen BK285.out 5; have hfz53_6 := blk_frozen BK285.out 6; have hfz53_7 := blk_frozen BK285.out 7; have hfz53_8 := blk_frozen BK285.out 8; have hcz54_0 : w51.cell? ⟨gb286, 0, none⟩ = some (.int .i64 a1_0) := (blk_cell BK286.out 0).trans rfl; have hcz54_1 : w51.cell? ⟨gb286, 1, none⟩ = some (.int .i64 a1_1) := (blk_cell BK286.out 1).trans rfl; have hcz54_2 : w51.cell? ⟨gb286, 2, none⟩ = some (.int .i64 a1_2) := (blk_cell BK286.out 2).trans rfl; have hcz54_3 : w51.cell? ⟨gb286, 3, none⟩ = some (.int .i64 a1_3) := (blk_cell BK286.out 3).trans rfl; have hcz54_4 : w51.cell? ⟨gb286, 4, none⟩ = some (.int .i64 a1_4) := (blk_cell BK286.out 4).trans rfl; have hcz54_5 : w51.cell? ⟨gb286, 5, none⟩ = some (.string a1_5) := (blk_cell BK286.out 5).trans rfl; have hcz54_6 : w51.cell? ⟨gb286, 6, none⟩ = some (.string a1_6) := (blk_cell BK286.out 6).trans rfl; have hcz54_7 : w51.cell? ⟨gb286, 7, none⟩ = some (.string a1_7) := (blk_cell BK286.out 7).trans rfl; have hcz54_8 : w51.cell? ⟨gb286, 8, none⟩ = some (.slice A1_8 l1_8.length c1_8) := (blk_cell BK286.out 8).trans rfl; have hfz54_0 := blk_frozen BK286.out 0; have hfz54_1 := blk_frozen BK286.out 1; have hfz54_2 := blk_frozen BK286.out 2; have hfz54_3 := blk_frozen BK286.out 3; have hfz54_4 := blk_frozen BK286.out 4; have hfz54_5 := blk_frozen BK286.out 5; have hfz54_6 := blk_frozen BK286.out 6; have hfz54_7 := blk_frozen BK286.out 7; have hfz54_8 := blk_frozen BK286.out 8)); try go_wp2_with (first | ((with_reducible refine gate_dst (N := 2) rfl ?_); refine box_event ?hg (N := 2) ?hd (cs := #[.int .i64 a0_0, .int .i64 a0_1, .int .i64 a0_2, .int .i64 a0_3, .int .i64 a0_4, .string a0_5, .string a0_6, .string a0_7, .slice A0_8 l0_8.length c0_8]) (t := 44) ?hr ?_; (case hd => rfl); (case hg => rfl); (case hr => first | (go_simp; done) | (go_simp; rfl)); intro gb285 hg w50 hbox hb; have n0_ := Aside0.mk (below_step (by repeat (first | (with_reducible first | exact HB.out | apply below_alloc | apply pw_below_drewN | apply below_drew1) | exact HB.out)) hb); have n1_ := Aside0.mk (hbox); have n2_ := Aside0.mk ((by rw [hg]; exact (below_size (by repeat (first | (with_reducible first | exact HB.out | apply below_alloc | apply pw_below_drewN | apply below_drew1) | exact HB.out))) : w.heap.size ≤ gb285)); have n3_ := Aside0.mk ((by rw [hg]; exact (below_size (by repeat (first | (with_reducible first | exact HB.out | apply below_alloc | apply pw_below_drewN | apply below_drew1) | exact HB.out))) : w.heap.size ≤ gb285)); clear HB; have HB := n0_; have BK285 := n1_; have GW285 := n2_; have GE285 := n3_; clear n0_ n1_ n2_ n3_; clear hb hbox hg) | ((with_reducible refine gate_dst (N := 3) rfl ?_); refine box_event ?hg (N := 3) ?hd (cs := #[.int .i64 a1_0, .int .i64 a1_1, .int .i64 a1_2, .int .i64 a1_3, .int .i64 a1_4, .string a1_5, .string a1_6, .string a1_7, .slice A1_8 l1_8.length c1_8]) (t := 44) ?hr ?_; (case hd => rfl); (case hg => rfl); (case hr => first | (go_simp; done) | (go_simp; rfl)); intro gb286 hg w51 hbox hb; have n0_ := Aside0.mk (blk_below (g := gb285) (o := .cells #[.int .i64 a0_0, .int .i64 a0_1, .int .i64 a0_2, .int .i64 a0_3, .int .i64 a0_4, .string a0_5, .string a0_6, .string a0_7, .slice A0_8 l0_8.length c0_8] 44 (0, 0)) (by (with_reducible repeat (first | refine blk_drewN ?_ _ | refine blk_drew ?_ | refine blk_alloc ?_ _)); exact BK285.out) hb); have n1_ := Aside0.mk (below_step (by repeat (first | (with_reducible first | exact HB.out | apply below_alloc | apply pw_below_drewN | apply below_drew1 | refine below_set ?_ GE285.out) | exact HB.out)) hb); have n2_ := Aside0.mk (hbox); have n3_ := Aside0.mk ((by rw [hg]; exact (below_size (by repeat (first | (with_reducible first | exact HB.out | apply below_alloc | apply pw_below_drewN | apply below_drew1 | refine below_set ?_ GE285.out) | exact HB.out))) : w.heap.size ≤ gb286)); have n4_ := Aside0.mk ((by rw [hg]; exact (below_size (by repeat (first | (with_reducible first | exact HB.out | apply below_alloc | apply pw_below_drewN | apply below_drew1 | refine below_set ?_ GE285.out) | exact HB.out))) : w.heap.size ≤ gb286)); have n5_ := Aside0.mk ((by rw [hg]; exact Nat.ne_of_lt (blk_lt (g := gb285) (o := .cells #[.int .i64 a0_0, .int .i64 a0_1, .int .i64 a0_2, .int .i64 a0_3, .int .i64 a0_4, .string a0_5, .string a0_6, .string a0_7, .slice A0_8 l0_8.length c0_8] 44 (0, 0)) (by (with_reducible repeat (first | refine blk_drewN ?_ _ | refine blk_drew ?_ | refine blk_alloc ?_ _)); exact BK285.out)) : gb285 ≠ gb286)); have n6_ := Aside0.mk ((by rw [hg]; exact Nat.ne_of_gt (blk_lt (g := gb285) (o := .cells #[.int .i64 a0_0, .int .i64 a0_1, .int .i64 a0_2, .int .i64 a0_3, .int .i64 a0_4, .string a0_5, .string a0_6, .string a0_7, .slice A0_8 l0_8.length c0_8] 44 (0, 0)) (by (with_reducible repeat (first | refine blk_drewN ?_ _ | refine blk_drew ?_ | refine blk_alloc ?_ _)); exact BK285.out)) : gb286 ≠ gb285)); clear BK285; clear HB; have BK285 := n0_; have HB := n1_; have BK286 := n2_; have GW286 := n3_; have GE286 := n4_; have NB285_286 := n5_; have NB286_285 := n6_; clear n0_ n1_ n2_ n3_ n4_ n5_ n6_; clear hb hbox hg; have hnb52 := NB285_286.out; have hnc52 := NB286_285.out; have hcz53_0 : w51.cell? ⟨gb285, 0, none⟩ = some (.int .i64 a0_0) := (blk_cell BK285.out 0).trans rfl; have hcz53_1 : w51.cell? ⟨gb285, 1, none⟩ = some (.int .i64 a0_1) := (blk_cell BK285.out 1).trans rfl; have hcz53_2 : w51.cell? ⟨gb285, 2, none⟩ = some (.int .i64 a0_2) := (blk_cell BK285.out 2).trans rfl; have hcz53_3 : w51.cell? ⟨gb285, 3, none⟩ = some (.int .i64 a0_3) := (blk_cell BK285.out 3).trans rfl; have hcz53_4 : w51.cell? ⟨gb285, 4, none⟩ = some (.int .i64 a0_4) := (blk_cell BK285.out 4).trans rfl; have hcz53_5 : w51.cell? ⟨gb285, 5, none⟩ = some (.string a0_5) := (blk_cell BK285.out 5).trans rfl; have hcz53_6 : w51.cell? ⟨gb285, 6, none⟩ = some (.string a0_6) := (blk_cell BK285.out 6).trans rfl; have hcz53_7 : w51.cell? ⟨gb285, 7, none⟩ = some (.string a0_7) := (blk_cell BK285.out 7).trans rfl; have hcz53_8 : w51.cell? ⟨gb285, 8, none⟩ = some (.slice A0_8 l0_8.length c0_8) := (blk_cell BK285.out 8).trans rfl; have hfz53_0 := blk_frozen BK285.out 0; have hfz53_1 := blk_frozen BK285.out 1; have hfz53_2 := blk_frozen BK285.out 2; have hfz53_3 := blk_frozen BK285.out 3; have hfz53_4 := blk_frozen BK285.out 4; have hfz53_5 := blk_frozen BK285.out 5; have hfz53_6 := blk_frozen BK285.out 6; have hfz53_7 := blk_frozen BK285.out 7; have hfz53_8 := blk_frozen BK285.out 8; have hcz54_0 : w51.cell? ⟨gb286, 0, none⟩ = some (.int .i64 a1_0) := (blk_cell BK286.out 0).trans rfl; have hcz54_1 : w51.cell? ⟨gb286, 1, none⟩ = some (.int .i64 a1_1) := (blk_cell BK286.out 1).trans rfl; have hcz54_2 : w51.cell? ⟨gb286, 2, none⟩ = some (.int .i64 a1_2) := (blk_cell BK286.out 2).trans rfl; have hcz54_3 : w51.cell? ⟨gb286, 3, none⟩ = some (.int .i64 a1_3) := (blk_cell BK286.out 3).trans rfl; have hcz54_4 : w51.cell? ⟨gb286, 4, none⟩ = some (.int .i64 a1_4) := (blk_cell BK286.out 4).trans rfl; have hcz54_5 : w51.cell? ⟨gb286, 5, none⟩ = some (.string a1_5) := (blk_cell BK286.out 5).trans rfl; have hcz54_6 : w51.cell? ⟨gb286, 6, none⟩ = some (.string a1_6) := (blk_cell BK286.out 6).trans rfl; have hcz54_7 : w51.cell? ⟨gb286, 7, none⟩ = some (.string a1_7) := (blk_cell BK286.out 7).trans rfl; have hcz54_8 : w51.cell? ⟨gb286, 8, none⟩ = some (.slice A1_8 l1_8.length c1_8) := (blk_cell BK286.out 8).trans rfl; have hfz54_0 := blk_frozen BK286.out 0; have hfz54_1 := blk_frozen BK286.out 1; have hfz54_2 := blk_frozen BK286.out 2; have hfz54_3 := blk_frozen BK286.out 3; have hfz54_4 := blk_frozen BK286.out 4; have hfz54_5 := blk_frozen BK286.out 5; have hfz54_6 := blk_frozen BK286.out 6; have hfz54_7 := blk_frozen BK286.out 7; have hfz54_8 := blk_frozen BK286.out 8)))
    go_ret
    exact ⟨by first | rfl | (simp [errW_none, errW_some] <;> rfl) | (simp [*, errW_none, errW_some] <;> rfl), by repeat (first | (with_reducible first | exact HB.out | apply below_alloc | apply pw_below_drewN | apply below_drew1 | refine below_set ?_ GE285.out | refine below_set ?_ GE286.out) | exact HB.out)⟩

end Go.Proofs.YtmamaijiphdggaaDoor.POp
