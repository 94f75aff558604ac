/- Part of a proof of this seat's statements: plain functions, contracts and rows, written by a program (the kit's printer, some functions given by hand) out of the translation; no conditions of its own. -/
import Derived.Test.YtmamaijiphdggaaDoorPOpx0
import Derived.Test.YtmamaijiphdggaaDoorPOpx1
import Derived.Test.YtmamaijiphdggaaDoorPOpx2
import Derived.Test.YtmamaijiphdggaaDoorPOpx3
import Derived.Test.YtmamaijiphdggaaDoorPOpx5
namespace Go.Proofs.YtmamaijiphdggaaDoor.POp
open Go.RowKit Go.Proofs.YtmamaijiphdggaaDoor.Given Go.Proofs.YtmamaijiphdggaaDoorW.PrintWords Go.Proofs.YtmamaijiphdggaaDoorW.PrintLast Go.Proofs.YtmamaijiphdggaaDoorW.PrintMore
attribute [local go_sem] max2_int min2_int max_two min_two max_three min_three max_four min_four   -- for this text's walks alone
set_option linter.unusedVariables false
set_option linter.unusedSimpArgs false

/-! ### secateurlaw07_OpWithin: function 7 -/
mutual
def secateurlaw07_OpWithin.j0 : Nat → Int → Int → Bool → Int → Int → Int → Int → Int → ByteArray → ByteArray → ByteArray → List Int → Option (Bool)
  | 0, _, _, _, _, _, _, _, _, _, _, _, _ => none
  | k + 1, x1, x2, x23, x314000, x314001, x314002, x314003, x314004, x314005, x314006, x314007, x314008 => if x23 = true then ((secateurlaw07_live.f k).bind fun t316 => (some t316)) else ((op_Uses.f k x314000 x314001 x314002 x314003 x314004 x314005 x314006 x314007 x314008).bind fun t317 => (secateurlaw07_OpWithin.l0 k x1 x2 t317 0 x314000 x314001 x314002 x314003 x314004 x314005 x314006 x314007 x314008))
def secateurlaw07_OpWithin.l0 : Nat → Int → Int → List Int → Int → Int → Int → Int → Int → Int → ByteArray → ByteArray → ByteArray → List Int → Option (Bool)
  | 0, _, _, _, _, _, _, _, _, _, _, _, _, _ => none
  | k + 1, x1, x2, x7, x8, x314000, x314001, x314002, x314003, x314004, x314005, x314006, x314007, x314008 => if x8 < (x7.length : Int) then (if 0 ≤ x8 then (if (rd x7 x8) < 0 then (some false) else (if (rd x7 x8) ≥ (wrap64 (x1)) then (some false) else (secateurlaw07_OpWithin.l0 k x1 x2 x7 (wrap64 (x8 + 1)) x314000 x314001 x314002 x314003 x314004 x314005 x314006 x314007 x314008))) else (none)) else ((op_Sets.f k x314000 x314001 x314002 x314003 x314004 x314005 x314006 x314007 x314008).bind fun bt322 => ((op_Target.f x314000 x314001 x314002 x314003 x314004 x314005 x314006 x314007 x314008).bind fun bt324 => ((secateurlaw07_live.f k).bind fun t326 => (if t326 = true then (if bt322.2 = true then (if bt322.1 ≥ 0 then (if bt322.1 < (wrap64 (x1)) then (if bt324.2 = true then (if bt324.1 < (wrap64 (x2)) then ((op_Fits.f x314000 x314001 x314002 x314003 x314004 x314005 x314006 x314007 x314008 (wrap64 ((wrap64 (x1)) + 1)) (wrap64 (x2))).bind fun t327 => (if t327 = 0 then ((op_Fits.f x314000 x314001 x314002 x314003 x314004 x314005 x314006 x314007 x314008 (wrap64 (x1)) (wrap64 ((wrap64 (x2)) + 1))).bind fun t328 => (some (t328 == 0))) else (some false))) else (some false)) else ((op_Fits.f x314000 x314001 x314002 x314003 x314004 x314005 x314006 x314007 x314008 (wrap64 ((wrap64 (x1)) + 1)) (wrap64 (x2))).bind fun t329 => (if t329 = 0 then ((op_Fits.f x314000 x314001 x314002 x314003 x314004 x314005 x314006 x314007 x314008 (wrap64 (x1)) (wrap64 ((wrap64 (x2)) + 1))).bind fun t330 => (some (t330 == 0))) else (some false)))) else (some false)) else (some false)) else (if bt324.2 = true then (if bt324.1 < (wrap64 (x2)) then ((op_Fits.f x314000 x314001 x314002 x314003 x314004 x314005 x314006 x314007 x314008 (wrap64 ((wrap64 (x1)) + 1)) (wrap64 (x2))).bind fun t331 => (if t331 = 0 then ((op_Fits.f x314000 x314001 x314002 x314003 x314004 x314005 x314006 x314007 x314008 (wrap64 (x1)) (wrap64 ((wrap64 (x2)) + 1))).bind fun t332 => (some (t332 == 0))) else (some false))) else (some false)) else ((op_Fits.f x314000 x314001 x314002 x314003 x314004 x314005 x314006 x314007 x314008 (wrap64 ((wrap64 (x1)) + 1)) (wrap64 (x2))).bind fun t333 => (if t333 = 0 then ((op_Fits.f x314000 x314001 x314002 x314003 x314004 x314005 x314006 x314007 x314008 (wrap64 (x1)) (wrap64 ((wrap64 (x2)) + 1))).bind fun t334 => (some (t334 == 0))) else (some false))))) else (some false)))))
end
def secateurlaw07_OpWithin.g (k : Nat) (a0_0 : Int) (a0_1 : Int) (a0_2 : Int) (a0_3 : Int) (a0_4 : Int) (a0_5 : ByteArray) (a0_6 : ByteArray) (a0_7 : ByteArray) (l0_8 : List Int) (a1 : Int) (a2 : Int) : Option (Bool) := (secateurlaw07_long.f a0_0 a0_1 a0_2 a0_3 a0_4 a0_5 a0_6 a0_7 l0_8).bind fun t314 => (if t314 = true then (secateurlaw07_OpWithin.j0 k a1 a2 true a0_0 a0_1 a0_2 a0_3 a0_4 a0_5 a0_6 a0_7 l0_8) else ((op_Fits.f a0_0 a0_1 a0_2 a0_3 a0_4 a0_5 a0_6 a0_7 l0_8 (wrap64 (a1)) (wrap64 (a2))).bind fun t315 => (secateurlaw07_OpWithin.j0 k a1 a2 (t315 != 0) a0_0 a0_1 a0_2 a0_3 a0_4 a0_5 a0_6 a0_7 l0_8)))
theorem secateurlaw07_OpWithin.mono_l : ∀ k, (∀ y0 y1 y2 y3 y4 y5 y6 y7 y8 y9 y10 y11, LeO (secateurlaw07_OpWithin.j0 k y0 y1 y2 y3 y4 y5 y6 y7 y8 y9 y10 y11) (secateurlaw07_OpWithin.j0 (k + 1) y0 y1 y2 y3 y4 y5 y6 y7 y8 y9 y10 y11)) ∧ (∀ y0 y1 y2 y3 y4 y5 y6 y7 y8 y9 y10 y11 y12, LeO (secateurlaw07_OpWithin.l0 k y0 y1 y2 y3 y4 y5 y6 y7 y8 y9 y10 y11 y12) (secateurlaw07_OpWithin.l0 (k + 1) y0 y1 y2 y3 y4 y5 y6 y7 y8 y9 y10 y11 y12))
  | 0 => ⟨fun _ _ _ _ _ _ _ _ _ _ _ _ r h => by simp [secateurlaw07_OpWithin.j0] at h, fun _ _ _ _ _ _ _ _ _ _ _ _ _ r h => by simp [secateurlaw07_OpWithin.l0] at h⟩
  | k + 1 => by
    obtain ⟨ih0, ih1⟩ := secateurlaw07_OpWithin.mono_l k
    refine ⟨?_, ?_⟩
    · intro y0 y1 y2 y3 y4 y5 y6 y7 y8 y9 y10 y11
      unfold secateurlaw07_OpWithin.j0
      repeat' first
      | (with_reducible exact ih0 _ _ _ _ _ _ _ _ _ _ _ _)
      | (with_reducible exact ih1 _ _ _ _ _ _ _ _ _ _ _ _ _)
      | (with_reducible exact op_Sets.mono _ _ _ _ _ _ _ _ _ _)
      | (with_reducible exact op_Uses.mono _ _ _ _ _ _ _ _ _ _)
      | (with_reducible exact secateurlaw07_live.mono _)
      | (with_reducible exact LeO.refl _)
      | (with_reducible exact LeO.none _)
      | (with_reducible refine LeO.ite ?_ ?_)
      | (with_reducible refine LeO.bind ?_ (fun _ => ?_))
      | exact ih0 _ _ _ _ _ _ _ _ _ _ _ _
      | exact ih1 _ _ _ _ _ _ _ _ _ _ _ _ _
      | exact op_Sets.mono _ _ _ _ _ _ _ _ _ _
      | exact op_Uses.mono _ _ _ _ _ _ _ _ _ _
      | exact secateurlaw07_live.mono _
      | exact LeO.none _
      | refine LeO.ite ?_ ?_
      | refine LeO.bind ?_ (fun _ => ?_)
    · intro y0 y1 y2 y3 y4 y5 y6 y7 y8 y9 y10 y11 y12
      unfold secateurlaw07_OpWithin.l0
      repeat' first
      | (with_reducible exact ih0 _ _ _ _ _ _ _ _ _ _ _ _)
      | (with_reducible exact ih1 _ _ _ _ _ _ _ _ _ _ _ _ _)
      | (with_reducible exact op_Sets.mono _ _ _ _ _ _ _ _ _ _)
      | (with_reducible exact op_Uses.mono _ _ _ _ _ _ _ _ _ _)
      | (with_reducible exact secateurlaw07_live.mono _)
      | (with_reducible exact LeO.refl _)
      | (with_reducible exact LeO.none _)
      | (with_reducible refine LeO.ite ?_ ?_)
      | (with_reducible refine LeO.bind ?_ (fun _ => ?_))
      | exact ih0 _ _ _ _ _ _ _ _ _ _ _ _
      | exact ih1 _ _ _ _ _ _ _ _ _ _ _ _ _
      | exact op_Sets.mono _ _ _ _ _ _ _ _ _ _
      | exact op_Uses.mono _ _ _ _ _ _ _ _ _ _
      | exact secateurlaw07_live.mono _
      | exact LeO.none _
      | refine LeO.ite ?_ ?_
      | refine LeO.bind ?_ (fun _ => ?_)
theorem secateurlaw07_OpWithin.gmono : ∀ a0 a1 a2 a3 a4 a5 a6 a7 a8 a9 a10 k, LeO (secateurlaw07_OpWithin.g k a0 a1 a2 a3 a4 a5 a6 a7 a8 a9 a10) (secateurlaw07_OpWithin.g (k + 1) a0 a1 a2 a3 a4 a5 a6 a7 a8 a9 a10) := by
  intro a0 a1 a2 a3 a4 a5 a6 a7 a8 a9 a10 k
  obtain ⟨ih0, ih1⟩ := secateurlaw07_OpWithin.mono_l k
  unfold secateurlaw07_OpWithin.g
  repeat' first
      | (with_reducible exact ih0 _ _ _ _ _ _ _ _ _ _ _ _)
      | (with_reducible exact ih1 _ _ _ _ _ _ _ _ _ _ _ _ _)
      | (with_reducible exact op_Sets.mono _ _ _ _ _ _ _ _ _ _)
      | (with_reducible exact op_Uses.mono _ _ _ _ _ _ _ _ _ _)
      | (with_reducible exact secateurlaw07_live.mono _)
      | (with_reducible exact LeO.refl _)
      | (with_reducible exact LeO.none _)
      | (with_reducible refine LeO.ite ?_ ?_)
      | (with_reducible refine LeO.bind ?_ (fun _ => ?_))
      | exact ih0 _ _ _ _ _ _ _ _ _ _ _ _
      | exact ih1 _ _ _ _ _ _ _ _ _ _ _ _ _
      | exact op_Sets.mono _ _ _ _ _ _ _ _ _ _
      | exact op_Uses.mono _ _ _ _ _ _ _ _ _ _
      | exact secateurlaw07_live.mono _
      | exact LeO.none _
      | refine LeO.ite ?_ ?_
      | refine LeO.bind ?_ (fun _ => ?_)
set_option maxHeartbeats 8000000 in
set_option maxRecDepth 100000 in
theorem secateurlaw07_OpWithin.gcalls (k : Nat) (a0_0 : Int) (a0_1 : Int) (a0_2 : Int) (a0_3 : Int) (a0_4 : Int) (a0_5 : ByteArray) (a0_6 : ByteArray) (a0_7 : ByteArray) (A0_8 : Option Addr) (c0_8 : Nat) (l0_8 : List Int) (a1 : Int) (a2 : Int) (r : Bool) (w : World) (hG : GW w) (hr0_8 : Kd.C (Kd.int .i64) w A0_8 l0_8.length l0_8) (hc0_8 : l0_8.length ≤ c0_8) (h : secateurlaw07_OpWithin.g k a0_0 a0_1 a0_2 a0_3 a0_4 a0_5 a0_6 a0_7 l0_8 a1 a2 = some r) (hrt : r = true) :
    Calls Tryd.prog 7 #[.agg #[.int .i64 a0_0, .int .i64 a0_1, .int .i64 a0_2, .int .i64 a0_3, .int .i64 a0_4, .string a0_5, .string a0_6, .string a0_7, .slice A0_8 l0_8.length c0_8], .int .u8 a1, .int .u8 a2] w fun e w' => e = .returned (.bool r) ∧ Below w.heap.size w w' := by
  have hu44 := Tryd.underlying44
  have HR0_8 := Aside0.mk hr0_8
  have HC0_8 := Aside0.mk hc0_8
  clear hr0_8 hc0_8
  have HRT := Aside0.mk hrt
  clear hrt
  have HG := Aside0.mk hG
  clear hG
  have HB := Aside0.mk (Below.refl w.heap.size w)
  have H : ((secateurlaw07_long.f a0_0 a0_1 a0_2 a0_3 a0_4 a0_5 a0_6 a0_7 l0_8).bind fun t314 => (if t314 = true then (secateurlaw07_OpWithin.j0 k a1 a2 true a0_0 a0_1 a0_2 a0_3 a0_4 a0_5 a0_6 a0_7 l0_8) else ((op_Fits.f a0_0 a0_1 a0_2 a0_3 a0_4 a0_5 a0_6 a0_7 l0_8 (wrap64 (a1)) (wrap64 (a2))).bind fun t315 => (secateurlaw07_OpWithin.j0 k a1 a2 (t315 != 0) a0_0 a0_1 a0_2 a0_3 a0_4 a0_5 a0_6 a0_7 l0_8)))) = some r := h
  clear h
  have HC4 := Aside0.mk H
  clear H
  go_enter Tryd.func7, Tryd.ntmps7
  go_upto_region 1 with (first | ((with_reducible refine gate_dst (N := 3) rfl ?_); refine box_event ?hg (N := 3) ?hd (cs := #[.int .i64 a0_0, .int .i64 a0_1, .int .i64 a0_2, .int .i64 a0_3, .int .i64 a0_4, .string a0_5, .string a0_6, .string a0_7, .slice A0_8 l0_8.length c0_8]) (t := 44) ?hr ?_; (case hd => rfl); (case hg => rfl); (case hr => first | (go_simp; done) | (go_simp; rfl)); intro gb313 hg w5 hbox hb; have n0_ := Aside0.mk (below_step (by repeat (first | (with_reducible first | exact HB.out | apply below_alloc | apply pw_below_drewN | apply below_drew1) | exact HB.out)) hb); have n1_ := Aside0.mk (hbox); have n2_ := Aside0.mk ((by rw [hg]; exact (below_size (by repeat (first | (with_reducible first | exact HB.out | apply below_alloc | apply pw_below_drewN | apply below_drew1) | exact HB.out))) : w.heap.size ≤ gb313)); have n3_ := Aside0.mk ((by rw [hg]; exact (below_size (by repeat (first | (with_reducible first | exact HB.out | apply below_alloc | apply pw_below_drewN | apply below_drew1) | exact HB.out))) : w.heap.size ≤ gb313)); clear HB; have HB := n0_; have BK313 := n1_; have GW313 := n2_; have GE313 := n3_; clear n0_ n1_ n2_ n3_; clear hb hbox hg))
  (try simp only [Act.put, List.setIfInBounds_toArray, List.set_cons_zero, List.set_cons_succ])
  go_cut [23] (fun v23 wc => ∃ (kq : Nat) (x23_3 : Bool), v23 = .bool x23_3 ∧ Aside0 (secateurlaw07_OpWithin.j0 kq a1 a2 x23_3 a0_0 a0_1 a0_2 a0_3 a0_4 a0_5 a0_6 a0_7 l0_8 = some r) ∧ Aside0 (kq ≤ k) ∧ Aside0 (wc.heap[gb313]? = some (.cells #[.int .i64 a0_0, .int .i64 a0_1, .int .i64 a0_2, .int .i64 a0_3, .int .i64 a0_4, .string a0_5, .string a0_6, .string a0_7, (.slice A0_8 l0_8.length c0_8)] 44 (0, 0))) ∧ Aside0 (Below w.heap.size w wc))
  case first =>
    have H := HC4.out
    clear HC4
    replace H := Option.bind_eq_some_iff.mp H
    obtain ⟨t314, A60, H⟩ := H
    replace H : (if t314 = true then (secateurlaw07_OpWithin.j0 k a1 a2 true a0_0 a0_1 a0_2 a0_3 a0_4 a0_5 a0_6 a0_7 l0_8) else ((op_Fits.f a0_0 a0_1 a0_2 a0_3 a0_4 a0_5 a0_6 a0_7 l0_8 (wrap64 (a1)) (wrap64 (a2))).bind fun t315 => (secateurlaw07_OpWithin.j0 k a1 a2 (t315 != 0) a0_0 a0_1 a0_2 a0_3 a0_4 a0_5 a0_6 a0_7 l0_8))) = some r := H
    have A6 := Aside0.mk A60
    clear A60
    by_cases c7 : t314 = true
    · subst c7
      have H1 : (secateurlaw07_OpWithin.j0 k a1 a2 true a0_0 a0_1 a0_2 a0_3 a0_4 a0_5 a0_6 a0_7 l0_8) = some r := by rw [if_pos rfl] at H; exact H
      clear H
      have H := H1
      clear H1
      have H' := Aside0.mk H
      clear H
      have hcz8_0 : w5.cell? ⟨gb313, 0, none⟩ = some (.int .i64 a0_0) := (blk_cell BK313.out 0).trans rfl
      have hcz8_1 : w5.cell? ⟨gb313, 1, none⟩ = some (.int .i64 a0_1) := (blk_cell BK313.out 1).trans rfl
      have hcz8_2 : w5.cell? ⟨gb313, 2, none⟩ = some (.int .i64 a0_2) := (blk_cell BK313.out 2).trans rfl
      have hcz8_3 : w5.cell? ⟨gb313, 3, none⟩ = some (.int .i64 a0_3) := (blk_cell BK313.out 3).trans rfl
      have hcz8_4 : w5.cell? ⟨gb313, 4, none⟩ = some (.int .i64 a0_4) := (blk_cell BK313.out 4).trans rfl
      have hcz8_5 : w5.cell? ⟨gb313, 5, none⟩ = some (.string a0_5) := (blk_cell BK313.out 5).trans rfl
      have hcz8_6 : w5.cell? ⟨gb313, 6, none⟩ = some (.string a0_6) := (blk_cell BK313.out 6).trans rfl
      have hcz8_7 : w5.cell? ⟨gb313, 7, none⟩ = some (.string a0_7) := (blk_cell BK313.out 7).trans rfl
      have hcz8_8 : w5.cell? ⟨gb313, 8, none⟩ = some (.slice A0_8 l0_8.length c0_8) := (blk_cell BK313.out 8).trans rfl
      have hfz8_0 := blk_frozen BK313.out 0
      have hfz8_1 := blk_frozen BK313.out 1
      have hfz8_2 := blk_frozen BK313.out 2
      have hfz8_3 := blk_frozen BK313.out 3
      have hfz8_4 := blk_frozen BK313.out 4
      have hfz8_5 := blk_frozen BK313.out 5
      have hfz8_6 := blk_frozen BK313.out 6
      have hfz8_7 := blk_frozen BK313.out 7
      have hfz8_8 := blk_frozen BK313.out 8
      go_wp2_with (first | ((with_reducible refine gate_callee (f := 22) rfl ?_); refine goesL_ (some 14) rfl rfl Tryd.func22 (by kernel_rfl) rfl #[.agg #[.int .i64 a0_0, .int .i64 a0_1, .int .i64 a0_2, .int .i64 a0_3, .int .i64 a0_4, .string a0_5, .string a0_6, .string a0_7, .slice A0_8 l0_8.length c0_8]] rfl (by (try simp only [List.map_toArray, List.map_cons, List.map_nil]); first | done | rfl | (simp only [List.length_drop, List.length_take]; rfl)) ?_; (with_reducible refine (secateurlaw07_long.calls a0_0 a0_1 a0_2 a0_3 a0_4 a0_5 a0_6 a0_7 _ _ l0_8 true _ ?side1 ?side2 A6.out).mono ?_); (case side1 => repeat (first | exact (Kd.C_below HR0_8.out HB.out) | (with_reducible refine Kd.C_alloc ?_ _) | (with_reducible refine Kd.C_drewN ?_ _) | (with_reducible refine Kd.C_drew ?_))); (case side2 => exact HC0_8.out); rintro e w9 ⟨rfl, hb⟩; refine ⟨_, rfl, ?_⟩; have n0_ := Aside0.mk (blk_below (g := gb313) (o := .cells #[.int .i64 a0_0, .int .i64 a0_1, .int .i64 a0_2, .int .i64 a0_3, .int .i64 a0_4, .string a0_5, .string a0_6, .string a0_7, .slice A0_8 l0_8.length c0_8] 44 (0, 0)) (by (with_reducible repeat (first | refine blk_drewN ?_ _ | refine blk_drew ?_ | refine blk_alloc ?_ _)); exact BK313.out) hb); have n1_ := Aside0.mk (below_step (by repeat (first | (with_reducible first | exact HB.out | apply below_alloc | apply pw_below_drewN | apply below_drew1 | refine below_set ?_ GE313.out) | exact HB.out)) hb); clear BK313; clear HB; have BK313 := n0_; have HB := n1_; clear n0_ n1_; (try clear hb); (try clear hb2); (try clear hk); (try clear hi)))
      go_meet
      case rel => exact ⟨_, (true), (by first | rfl | (simp; done) | (simp [*]; done) | (exfalso; simp only [beq_iff_eq] at *; omega)), H', ⟨by first | omega | exact Nat.le_refl _⟩, ⟨by (with_reducible repeat (first | refine blk_drewN ?_ _ | refine blk_drew ?_ | refine blk_alloc ?_ _)); exact BK313.out⟩, ⟨by repeat (first | (with_reducible first | exact HB.out | apply below_alloc | apply pw_below_drewN | apply below_drew1 | refine below_set ?_ GE313.out) | exact HB.out)⟩⟩
    · replace c7 := Bool.eq_false_iff.mpr c7
      subst c7
      have H1 : ((op_Fits.f a0_0 a0_1 a0_2 a0_3 a0_4 a0_5 a0_6 a0_7 l0_8 (wrap64 (a1)) (wrap64 (a2))).bind fun t315 => (secateurlaw07_OpWithin.j0 k a1 a2 (t315 != 0) a0_0 a0_1 a0_2 a0_3 a0_4 a0_5 a0_6 a0_7 l0_8)) = some r := by rw [if_neg (show ¬ (false = true) by decide)] at H; exact H
      clear H
      have H := H1
      clear H1
      replace H := Option.bind_eq_some_iff.mp H
      obtain ⟨t315, A100, H⟩ := H
      replace H : (secateurlaw07_OpWithin.j0 k a1 a2 (t315 != 0) a0_0 a0_1 a0_2 a0_3 a0_4 a0_5 a0_6 a0_7 l0_8) = some r := H
      have A10 := Aside0.mk A100
      clear A100
      have H' := Aside0.mk H
      clear H
      have hcz11_0 : w5.cell? ⟨gb313, 0, none⟩ = some (.int .i64 a0_0) := (blk_cell BK313.out 0).trans rfl
      have hcz11_1 : w5.cell? ⟨gb313, 1, none⟩ = some (.int .i64 a0_1) := (blk_cell BK313.out 1).trans rfl
      have hcz11_2 : w5.cell? ⟨gb313, 2, none⟩ = some (.int .i64 a0_2) := (blk_cell BK313.out 2).trans rfl
      have hcz11_3 : w5.cell? ⟨gb313, 3, none⟩ = some (.int .i64 a0_3) := (blk_cell BK313.out 3).trans rfl
      have hcz11_4 : w5.cell? ⟨gb313, 4, none⟩ = some (.int .i64 a0_4) := (blk_cell BK313.out 4).trans rfl
      have hcz11_5 : w5.cell? ⟨gb313, 5, none⟩ = some (.string a0_5) := (blk_cell BK313.out 5).trans rfl
      have hcz11_6 : w5.cell? ⟨gb313, 6, none⟩ = some (.string a0_6) := (blk_cell BK313.out 6).trans rfl
      have hcz11_7 : w5.cell? ⟨gb313, 7, none⟩ = some (.string a0_7) := (blk_cell BK313.out 7).trans rfl
      have hcz11_8 : w5.cell? ⟨gb313, 8, none⟩ = some (.slice A0_8 l0_8.length c0_8) := (blk_cell BK313.out 8).trans rfl
      have hfz11_0 := blk_frozen BK313.out 0
      have hfz11_1 := blk_frozen BK313.out 1
      have hfz11_2 := blk_frozen BK313.out 2
      have hfz11_3 := blk_frozen BK313.out 3
      have hfz11_4 := blk_frozen BK313.out 4
      have hfz11_5 := blk_frozen BK313.out 5
      have hfz11_6 := blk_frozen BK313.out 6
      have hfz11_7 := blk_frozen BK313.out 7
      have hfz11_8 := blk_frozen BK313.out 8
      go_wp2_with (first | ((with_reducible refine gate_callee (f := 22) rfl ?_); refine goesL_ (some 14) rfl rfl Tryd.func22 (by kernel_rfl) rfl #[.agg #[.int .i64 a0_0, .int .i64 a0_1, .int .i64 a0_2, .int .i64 a0_3, .int .i64 a0_4, .string a0_5, .string a0_6, .string a0_7, .slice A0_8 l0_8.length c0_8]] rfl (by (try simp only [List.map_toArray, List.map_cons, List.map_nil]); first | done | rfl | (simp only [List.length_drop, List.length_take]; rfl)) ?_; (with_reducible refine (secateurlaw07_long.calls a0_0 a0_1 a0_2 a0_3 a0_4 a0_5 a0_6 a0_7 _ _ l0_8 false _ ?side1 ?side2 A6.out).mono ?_); (case side1 => repeat (first | exact (Kd.C_below HR0_8.out HB.out) | (with_reducible refine Kd.C_alloc ?_ _) | (with_reducible refine Kd.C_drewN ?_ _) | (with_reducible refine Kd.C_drew ?_))); (case side2 => exact HC0_8.out); rintro e w12 ⟨rfl, hb⟩; refine ⟨_, rfl, ?_⟩; have n0_ := Aside0.mk (blk_below (g := gb313) (o := .cells #[.int .i64 a0_0, .int .i64 a0_1, .int .i64 a0_2, .int .i64 a0_3, .int .i64 a0_4, .string a0_5, .string a0_6, .string a0_7, .slice A0_8 l0_8.length c0_8] 44 (0, 0)) (by (with_reducible repeat (first | refine blk_drewN ?_ _ | refine blk_drew ?_ | refine blk_alloc ?_ _)); exact BK313.out) hb); have n1_ := Aside0.mk (below_step (by repeat (first | (with_reducible first | exact HB.out | apply below_alloc | apply pw_below_drewN | apply below_drew1 | refine below_set ?_ GE313.out) | exact HB.out)) hb); clear BK313; clear HB; have BK313 := n0_; have HB := n1_; clear n0_ n1_; (try clear hb); (try clear hb2); (try clear hk); (try clear hi); have hcz13_0 : w12.cell? ⟨gb313, 0, none⟩ = some (.int .i64 a0_0) := (blk_cell BK313.out 0).trans rfl; have hcz13_1 : w12.cell? ⟨gb313, 1, none⟩ = some (.int .i64 a0_1) := (blk_cell BK313.out 1).trans rfl; have hcz13_2 : w12.cell? ⟨gb313, 2, none⟩ = some (.int .i64 a0_2) := (blk_cell BK313.out 2).trans rfl; have hcz13_3 : w12.cell? ⟨gb313, 3, none⟩ = some (.int .i64 a0_3) := (blk_cell BK313.out 3).trans rfl; have hcz13_4 : w12.cell? ⟨gb313, 4, none⟩ = some (.int .i64 a0_4) := (blk_cell BK313.out 4).trans rfl; have hcz13_5 : w12.cell? ⟨gb313, 5, none⟩ = some (.string a0_5) := (blk_cell BK313.out 5).trans rfl; have hcz13_6 : w12.cell? ⟨gb313, 6, none⟩ = some (.string a0_6) := (blk_cell BK313.out 6).trans rfl; have hcz13_7 : w12.cell? ⟨gb313, 7, none⟩ = some (.string a0_7) := (blk_cell BK313.out 7).trans rfl; have hcz13_8 : w12.cell? ⟨gb313, 8, none⟩ = some (.slice A0_8 l0_8.length c0_8) := (blk_cell BK313.out 8).trans rfl; have hfz13_0 := blk_frozen BK313.out 0; have hfz13_1 := blk_frozen BK313.out 1; have hfz13_2 := blk_frozen BK313.out 2; have hfz13_3 := blk_frozen BK313.out 3; have hfz13_4 := blk_frozen BK313.out 4; have hfz13_5 := blk_frozen BK313.out 5; have hfz13_6 := blk_frozen BK313.out 6; have hfz13_7 := blk_frozen BK313.out 7; have hfz13_8 := blk_frozen BK313.out 8) | (go_at_call 23; (with_reducible refine (op_Fits.calls a0_0 a0_1 a0_2 a0_3 a0_4 a0_5 a0_6 a0_7 _ _ l0_8 (wrap64 (a1)) (wrap64 (a2)) t315 _ ?side3 ?side1 ?side2 A10.out).mono ?_); (case side1 => repeat (first | exact (Kd.C_below HR0_8.out HB.out) | (with_reducible refine Kd.C_alloc ?_ _) | (with_reducible refine Kd.C_drewN ?_ _) | (with_reducible refine Kd.C_drew ?_))); (case side2 => exact HC0_8.out); (case side3 => repeat (first | exact (GW.below HG.out HB.out) | (with_reducible refine GW.alloc ?_ _) | (with_reducible refine GW.drewN ?_ _) | (with_reducible refine GW.drew ?_))); rintro e w14 ⟨rfl, hb⟩; have n0_ := Aside0.mk (blk_below (g := gb313) (o := .cells #[.int .i64 a0_0, .int .i64 a0_1, .int .i64 a0_2, .int .i64 a0_3, .int .i64 a0_4, .string a0_5, .string a0_6, .string a0_7, .slice A0_8 l0_8.length c0_8] 44 (0, 0)) (by (with_reducible repeat (first | refine blk_drewN ?_ _ | refine blk_drew ?_ | refine blk_alloc ?_ _)); exact BK313.out) hb); have n1_ := Aside0.mk (below_step (by repeat (first | (with_reducible first | exact HB.out | apply below_alloc | apply pw_below_drewN | apply below_drew1 | refine below_set ?_ GE313.out) | exact HB.out)) hb); clear BK313; clear HB; have BK313 := n0_; have HB := n1_; clear n0_ n1_; (try clear hb); (try clear hb2); (try clear hk); (try clear hi)))
      go_meet
      case rel => exact ⟨_, ((t315 != 0)), (by first | rfl | (simp; done) | (simp [*]; done) | (exfalso; simp only [beq_iff_eq] at *; omega)), H', ⟨by first | omega | exact Nat.le_refl _⟩, ⟨by (with_reducible repeat (first | refine blk_drewN ?_ _ | refine blk_drew ?_ | refine blk_alloc ?_ _)); exact BK313.out⟩, ⟨by repeat (first | (with_reducible first | exact HB.out | apply below_alloc | apply pw_below_drewN | apply below_drew1 | refine below_set ?_ GE313.out) | exact HB.out)⟩⟩
  case rest =>
    clear HC4
    try clear c2
    try clear p2
    try clear p6
    try clear c7
    try clear hcz11_0
    try clear hcz11_1
    try clear hcz11_2
    try clear hcz11_3
    try clear hcz11_4
    try clear hcz11_5
    try clear hcz11_6
    try clear hcz11_7
    try clear hcz11_8
    try clear hcz13_0
    try clear hcz13_1
    try clear hcz13_2
    try clear hcz13_3
    try clear hcz13_4
    try clear hcz13_5
    try clear hcz13_6
    try clear hcz13_7
    try clear hcz13_8
    try clear hcz8_0
    try clear hcz8_1
    try clear hcz8_2
    try clear hcz8_3
    try clear hcz8_4
    try clear hcz8_5
    try clear hcz8_6
    try clear hcz8_7
    try clear hcz8_8
    try clear hfz11_0
    try clear hfz11_1
    try clear hfz11_2
    try clear hfz11_3
    try clear hfz11_4
    try clear hfz11_5
    try clear hfz11_6
    try clear hfz11_7
    try clear hfz11_8
    try clear hfz13_0
    try clear hfz13_1
    try clear hfz13_2
    try clear hfz13_3
    try clear hfz13_4
    try clear hfz13_5
    try clear hfz13_6
    try clear hfz13_7
    try clear hfz13_8
    try clear hfz8_0
    try clear hfz8_1
    try clear hfz8_2
    try clear hfz8_3
    try clear hfz8_4
    try clear hfz8_5
    try clear hfz8_6
    try clear hfz8_7
    try clear hfz8_8
    obtain ⟨kq, x23_3, rfl, HA, HJ3, BK313, HB⟩ := hcut
    cases kq with
    | zero => exact absurd HA.out (by simp [secateurlaw07_OpWithin.j0])
    | succ kj3 =>
      have H := HA.out
      clear HA
      simp only [secateurlaw07_OpWithin.j0] at H
      by_cases c15 : x23_3 = true
      · subst c15
        have H1 : ((secateurlaw07_live.f kj3).bind fun t316 => (some t316)) = some r := by rw [if_pos rfl] at H; exact H
        clear H
        have H := H1
        clear H1
        replace H := Option.bind_eq_some_iff.mp H
        obtain ⟨t316, A160, H⟩ := H
        replace H : (some t316) = some r := H
        have A16 := Aside0.mk A160
        clear A160
        obtain rfl := Option.some.inj H
        simp only [Option.some.injEq, Prod.mk.injEq] at H
        obtain ⟨rfl⟩ := H
        go_wp2_with (first | ((with_reducible refine gate_callee (f := 16) rfl ?_); refine goesL_ (some 24) rfl rfl Tryd.func16 (by kernel_rfl) rfl #[] rfl (by (try simp only [List.map_toArray, List.map_cons, List.map_nil]); first | done | rfl | (simp only [List.length_drop, List.length_take]; rfl)) ?_; (with_reducible refine (secateurlaw07_live.calls kj3  t316 _ ?side1 A16.out).mono ?_); (case side1 => repeat (first | exact (GW.below HG.out HB.out) | (with_reducible refine GW.alloc ?_ _) | (with_reducible refine GW.drewN ?_ _) | (with_reducible refine GW.drew ?_))); rintro e w17 ⟨rfl, hb⟩; refine ⟨_, rfl, ?_⟩; have n0_ := Aside0.mk (blk_below (g := gb313) (o := .cells #[.int .i64 a0_0, .int .i64 a0_1, .int .i64 a0_2, .int .i64 a0_3, .int .i64 a0_4, .string a0_5, .string a0_6, .string a0_7, .slice A0_8 l0_8.length c0_8] 44 (0, 0)) (by (with_reducible repeat (first | refine blk_drewN ?_ _ | refine blk_drew ?_ | refine blk_alloc ?_ _)); exact BK313.out) hb); have n1_ := Aside0.mk (below_step (by repeat (first | (with_reducible first | exact HB.out | apply below_alloc | apply pw_below_drewN | apply below_drew1 | refine below_set ?_ GE313.out) | exact HB.out)) hb); clear BK313; clear HB; have BK313 := n0_; have HB := n1_; clear n0_ n1_; (try clear hb); (try clear hb2); (try clear hk); (try clear hi)))
        go_ret
        exact ⟨by first | rfl | (simp [errW_none, errW_some] <;> rfl) | (simp [*, errW_none, errW_some] <;> rfl), by repeat (first | (with_reducible first | exact HB.out | apply below_alloc | apply pw_below_drewN | apply below_drew1 | refine below_set ?_ GE313.out) | exact HB.out)⟩
      · replace c15 := Bool.eq_false_iff.mpr c15
        subst c15
        have H1 : ((op_Uses.f kj3 a0_0 a0_1 a0_2 a0_3 a0_4 a0_5 a0_6 a0_7 l0_8).bind fun t317 => (secateurlaw07_OpWithin.l0 kj3 a1 a2 t317 0 a0_0 a0_1 a0_2 a0_3 a0_4 a0_5 a0_6 a0_7 l0_8)) = some r := by rw [if_neg (show ¬ (false = true) by decide)] at H; exact H
        clear H
        have H := H1
        clear H1
        replace H := Option.bind_eq_some_iff.mp H
        obtain ⟨t317, A180, H⟩ := H
        replace H : (secateurlaw07_OpWithin.l0 kj3 a1 a2 t317 0 a0_0 a0_1 a0_2 a0_3 a0_4 a0_5 a0_6 a0_7 l0_8) = some r := H
        have A18 := Aside0.mk A180
        clear A180
        have H' := Aside0.mk H
        clear H
        have hcz19_0 : wc.cell? ⟨gb313, 0, none⟩ = some (.int .i64 a0_0) := (blk_cell BK313.out 0).trans rfl
        have hcz19_1 : wc.cell? ⟨gb313, 1, none⟩ = some (.int .i64 a0_1) := (blk_cell BK313.out 1).trans rfl
        have hcz19_2 : wc.cell? ⟨gb313, 2, none⟩ = some (.int .i64 a0_2) := (blk_cell BK313.out 2).trans rfl
        have hcz19_3 : wc.cell? ⟨gb313, 3, none⟩ = some (.int .i64 a0_3) := (blk_cell BK313.out 3).trans rfl
        have hcz19_4 : wc.cell? ⟨gb313, 4, none⟩ = some (.int .i64 a0_4) := (blk_cell BK313.out 4).trans rfl
        have hcz19_5 : wc.cell? ⟨gb313, 5, none⟩ = some (.string a0_5) := (blk_cell BK313.out 5).trans rfl
        have hcz19_6 : wc.cell? ⟨gb313, 6, none⟩ = some (.string a0_6) := (blk_cell BK313.out 6).trans rfl
        have hcz19_7 : wc.cell? ⟨gb313, 7, none⟩ = some (.string a0_7) := (blk_cell BK313.out 7).trans rfl
        have hcz19_8 : wc.cell? ⟨gb313, 8, none⟩ = some (.slice A0_8 l0_8.length c0_8) := (blk_cell BK313.out 8).trans rfl
        have hfz19_0 := blk_frozen BK313.out 0
        have hfz19_1 := blk_frozen BK313.out 1
        have hfz19_2 := blk_frozen BK313.out 2
        have hfz19_3 := blk_frozen BK313.out 3
        have hfz19_4 := blk_frozen BK313.out 4
        have hfz19_5 := blk_frozen BK313.out 5
        have hfz19_6 := blk_frozen BK313.out 6
        have hfz19_7 := blk_frozen BK313.out 7
        have hfz19_8 := blk_frozen BK313.out 8
        go_wp2_with (first | ((with_reducible refine gate_callee (f := 13) rfl ?_); refine goesL_ (some 26) rfl rfl Tryd.func13 (by kernel_rfl) rfl #[.agg #[.int .i64 a0_0, .int .i64 a0_1, .int .i64 a0_2, .int .i64 a0_3, .int .i64 a0_4, .string a0_5, .string a0_6, .string a0_7, .slice A0_8 l0_8.length c0_8]] rfl (by (try simp only [List.map_toArray, List.map_cons, List.map_nil]); first | done | rfl | (simp only [List.length_drop, List.length_take]; rfl)) ?_; (with_reducible refine (op_Uses.calls kj3 a0_0 a0_1 a0_2 a0_3 a0_4 a0_5 a0_6 a0_7 _ _ l0_8 t317 _ ?side3 ?side1 ?side2 A18.out).mono ?_); (case side1 => repeat (first | exact (Kd.C_below HR0_8.out HB.out) | (with_reducible refine Kd.C_alloc ?_ _) | (with_reducible refine Kd.C_drewN ?_ _) | (with_reducible refine Kd.C_drew ?_))); (case side2 => exact HC0_8.out); (case side3 => repeat (first | exact (GW.below HG.out HB.out) | (with_reducible refine GW.alloc ?_ _) | (with_reducible refine GW.drewN ?_ _) | (with_reducible refine GW.drew ?_))); rintro e w20 ⟨v318, rfl, ho0, hb⟩; refine ⟨_, rfl, ?_⟩; have n0_ := Aside0.mk (Kd.R_lower ho0 (below_size (by repeat (first | (with_reducible first | exact HB.out | apply below_alloc | apply pw_below_drewN | apply below_drew1 | refine below_set ?_ GE313.out) | exact HB.out)))); have n1_ := Aside0.mk (blk_below (g := gb313) (o := .cells #[.int .i64 a0_0, .int .i64 a0_1, .int .i64 a0_2, .int .i64 a0_3, .int .i64 a0_4, .string a0_5, .string a0_6, .string a0_7, .slice A0_8 l0_8.length c0_8] 44 (0, 0)) (by (with_reducible repeat (first | refine blk_drewN ?_ _ | refine blk_drew ?_ | refine blk_alloc ?_ _)); exact BK313.out) hb); have n2_ := Aside0.mk (below_step (by repeat (first | (with_reducible first | exact HB.out | apply below_alloc | apply pw_below_drewN | apply below_drew1 | refine below_set ?_ GE313.out) | exact HB.out)) hb); clear BK313; clear HB; have HO319 := n0_; have BK313 := n1_; have HB := n2_; clear n0_ n1_ n2_; (try clear hb); (try clear hb2); (try clear hk); (try clear hi); (try clear ho0)))
        go_loopg [8] kj3 (fun kq v8 w' => ∃ (x8_2 : Int), v8 = .int .i64 x8_2 ∧ Aside0 (secateurlaw07_OpWithin.l0 kq a1 a2 t317 x8_2 a0_0 a0_1 a0_2 a0_3 a0_4 a0_5 a0_6 a0_7 l0_8 = some r) ∧ Aside0 (kq ≤ kj3) ∧ Aside0 (Kd.R (Kd.int .i64) 3 w' w.heap.size (fun _ => True) v318 t317) ∧ Aside0 (w'.heap[gb313]? = some (.cells #[.int .i64 a0_0, .int .i64 a0_1, .int .i64 a0_2, .int .i64 a0_3, .int .i64 a0_4, .string a0_5, .string a0_6, .string a0_7, (.slice A0_8 l0_8.length c0_8)] 44 (0, 0))) ∧ Aside0 (Below w.heap.size w w'))
        case atStart => exact ⟨(0), (by first | rfl | (simp; done) | (simp [*]; done) | (exfalso; simp only [beq_iff_eq] at *; omega)), H', ⟨Nat.le_refl _⟩, ⟨by (with_reducible repeat (first | apply Kd.R_alloc | apply Kd.R_drewN | apply Kd.R_drew)); exact HO319.out⟩, ⟨by (with_reducible repeat (first | refine blk_drewN ?_ _ | refine blk_drew ?_ | refine blk_alloc ?_ _)); exact BK313.out⟩, ⟨by repeat (first | (with_reducible first | exact HB.out | apply below_alloc | apply pw_below_drewN | apply below_drew1 | refine below_set ?_ GE313.out) | exact HB.out)⟩⟩
        case round =>
          clear H'
          try clear c1
          try clear c2
          try clear p2
          try clear p6
          try clear c7
          try clear c13
          try clear c15
          try clear c16
          try clear hcz11_0
          try clear hcz11_1
          try clear hcz11_2
          try clear hcz11_3
          try clear hcz11_4
          try clear hcz11_5
          try clear hcz11_6
          try clear hcz11_7
          try clear hcz11_8
          try clear hcz13_0
          try clear hcz13_1
          try clear hcz13_2
          try clear hcz13_3
          try clear hcz13_4
          try clear hcz13_5
          try clear hcz13_6
          try clear hcz13_7
          try clear hcz13_8
          try clear hcz19_0
          try clear hcz19_1
          try clear hcz19_2
          try clear hcz19_3
          try clear hcz19_4
          try clear hcz19_5
          try clear hcz19_6
          try clear hcz19_7
          try clear hcz19_8
          try clear hcz8_0
          try clear hcz8_1
          try clear hcz8_2
          try clear hcz8_3
          try clear hcz8_4
          try clear hcz8_5
          try clear hcz8_6
          try clear hcz8_7
          try clear hcz8_8
          try clear hfz11_0
          try clear hfz11_1
          try clear hfz11_2
          try clear hfz11_3
          try clear hfz11_4
          try clear hfz11_5
          try clear hfz11_6
          try clear hfz11_7
          try clear hfz11_8
          try clear hfz13_0
          try clear hfz13_1
          try clear hfz13_2
          try clear hfz13_3
          try clear hfz13_4
          try clear hfz13_5
          try clear hfz13_6
          try clear hfz13_7
          try clear hfz13_8
          try clear hfz19_0
          try clear hfz19_1
          try clear hfz19_2
          try clear hfz19_3
          try clear hfz19_4
          try clear hfz19_5
          try clear hfz19_6
          try clear hfz19_7
          try clear hfz19_8
          try clear hfz8_0
          try clear hfz8_1
          try clear hfz8_2
          try clear hfz8_3
          try clear hfz8_4
          try clear hfz8_5
          try clear hfz8_6
          try clear hfz8_7
          try clear hfz8_8
          try clear p2
          try clear p6
          obtain ⟨x8_2, rfl, HA, HK2, HO_7, BK313, HB⟩ := hrel
          cases gk with
          | zero => exact absurd HA.out (by simp [secateurlaw07_OpWithin.l0])
          | succ k2 =>
            have H := HA.out
            clear HA
            simp only [secateurlaw07_OpWithin.l0] at H
            by_cases c21 : x8_2 < (t317.length : Int)
            · rw [if_pos c21] at H
              have c21b0 : decide (x8_2 < (t317.length : Int)) = true := decide_eq_true c21
              clear c21
              by_cases c22 : 0 ≤ x8_2
              · rw [if_pos c22] at H
                have c22b0 : decide (0 ≤ x8_2) = true := decide_eq_true c22
                clear c22
                by_cases c23 : (rd t317 x8_2) < 0
                · rw [if_pos c23] at H
                  have c23b0 : decide ((rd t317 x8_2) < 0) = true := decide_eq_true c23
                  clear c23
                  obtain rfl := Option.some.inj H
                  cases HRT.out
                · rw [if_neg c23] at H
                  have c23b0 : decide ((rd t317 x8_2) < 0) = false := decide_eq_false c23
                  clear c23
                  by_cases c24 : (rd t317 x8_2) ≥ (wrap64 (a1))
                  · rw [if_pos c24] at H
                    have c24b0 : decide ((wrap64 (a1)) ≤ (rd t317 x8_2)) = true := decide_eq_true c24
                    clear c24
                    obtain rfl := Option.some.inj H
                    cases HRT.out
                  · rw [if_neg c24] at H
                    have c24b0 : decide ((wrap64 (a1)) ≤ (rd t317 x8_2)) = false := decide_eq_false c24
                    clear c24
                    have H' := Aside0.mk H
                    clear H
                    obtain ⟨Ao25, co25, eo25⟩ := Kd.R_slice HO_7.out
                    subst eo25
                    have p320 : 0 ≤ (x8_2 : Int) := of_decide_eq_true (by first | (with_reducible assumption) | assumption)
                    have q320 : x8_2 < (t317.length : Int) := of_decide_eq_true (by first | (with_reducible assumption) | assumption)
                    obtain ⟨ad320, e320, hx320_0⟩ := Kd.at_int (Kd.R_reads' HO_7.out).2.2 x8_2 p320 q320
                    cases e320
                    replace p320 := eq_true p320
                    replace q320 := eq_true q320
                    have p321 : 0 ≤ (x8_2 : Int) := of_decide_eq_true (by first | (with_reducible assumption) | assumption)
                    have q321 : x8_2 < (t317.length : Int) := of_decide_eq_true (by first | (with_reducible assumption) | assumption)
                    obtain ⟨ad321, e321, hx321_0⟩ := Kd.at_int (Kd.R_reads' HO_7.out).2.2 x8_2 p321 q321
                    obtain rfl : ad320 = ad321 := (by injection e321)
                    replace p321 := eq_true p321
                    replace q321 := eq_true q321
                    go_wp2
                    go_roundg k2
                    case measure => have := HJ3.out; have := HK2.out; omega
                    case rel => exact ⟨(wrap64 (x8_2 + 1)), (by first | rfl | (simp; done) | (simp [*]; done) | (exfalso; simp only [beq_iff_eq] at *; omega)), H', ⟨by have := HJ3.out; have := HK2.out; omega⟩, ⟨by (with_reducible repeat (first | apply Kd.R_alloc | apply Kd.R_drewN | apply Kd.R_drew)); exact HO_7.out⟩, ⟨by (with_reducible repeat (first | refine blk_drewN ?_ _ | refine blk_drew ?_ | refine blk_alloc ?_ _)); exact BK313.out⟩, ⟨by repeat (first | (with_reducible first | exact HB.out | apply below_alloc | apply pw_below_drewN | apply below_drew1 | refine below_set ?_ GE313.out) | exact HB.out)⟩⟩
              · rw [if_neg c22] at H
                exact absurd H (by simp)
            · rw [if_neg c21] at H
              have c21b0 : decide (x8_2 < (t317.length : Int)) = false := decide_eq_false c21
              clear c21
              replace H := Option.bind_eq_some_iff.mp H
              obtain ⟨⟨t322, t323⟩, A260, H⟩ := H
              replace H : ((op_Target.f a0_0 a0_1 a0_2 a0_3 a0_4 a0_5 a0_6 a0_7 l0_8).bind fun bt324 => ((secateurlaw07_live.f k2).bind fun t326 => (if t326 = true then (if t323 = true then (if t322 ≥ 0 then (if t322 < (wrap64 (a1)) then (if bt324.2 = true then (if bt324.1 < (wrap64 (a2)) then ((op_Fits.f a0_0 a0_1 a0_2 a0_3 a0_4 a0_5 a0_6 a0_7 l0_8 (wrap64 ((wrap64 (a1)) + 1)) (wrap64 (a2))).bind fun t327 => (if t327 = 0 then ((op_Fits.f a0_0 a0_1 a0_2 a0_3 a0_4 a0_5 a0_6 a0_7 l0_8 (wrap64 (a1)) (wrap64 ((wrap64 (a2)) + 1))).bind fun t328 => (some (t328 == 0))) else (some false))) else (some false)) else ((op_Fits.f a0_0 a0_1 a0_2 a0_3 a0_4 a0_5 a0_6 a0_7 l0_8 (wrap64 ((wrap64 (a1)) + 1)) (wrap64 (a2))).bind fun t329 => (if t329 = 0 then ((op_Fits.f a0_0 a0_1 a0_2 a0_3 a0_4 a0_5 a0_6 a0_7 l0_8 (wrap64 (a1)) (wrap64 ((wrap64 (a2)) + 1))).bind fun t330 => (some (t330 == 0))) else (some false)))) else (some false)) else (some false)) else (if bt324.2 = true then (if bt324.1 < (wrap64 (a2)) then ((op_Fits.f a0_0 a0_1 a0_2 a0_3 a0_4 a0_5 a0_6 a0_7 l0_8 (wrap64 ((wrap64 (a1)) + 1)) (wrap64 (a2))).bind fun t331 => (if t331 = 0 then ((op_Fits.f a0_0 a0_1 a0_2 a0_3 a0_4 a0_5 a0_6 a0_7 l0_8 (wrap64 (a1)) (wrap64 ((wrap64 (a2)) + 1))).bind fun t332 => (some (t332 == 0))) else (some false))) else (some false)) else ((op_Fits.f a0_0 a0_1 a0_2 a0_3 a0_4 a0_5 a0_6 a0_7 l0_8 (wrap64 ((wrap64 (a1)) + 1)) (wrap64 (a2))).bind fun t333 => (if t333 = 0 then ((op_Fits.f a0_0 a0_1 a0_2 a0_3 a0_4 a0_5 a0_6 a0_7 l0_8 (wrap64 (a1)) (wrap64 ((wrap64 (a2)) + 1))).bind fun t334 => (some (t334 == 0))) else (some false))))) else (some false)))) = some r := H
              have A26 := Aside0.mk A260
              clear A260
              replace H := Option.bind_eq_some_iff.mp H
              obtain ⟨⟨t324, t325⟩, A270, H⟩ := H
              replace H : ((secateurlaw07_live.f k2).bind fun t326 => (if t326 = true then (if t323 = true then (if t322 ≥ 0 then (if t322 < (wrap64 (a1)) then (if t325 = true then (if t324 < (wrap64 (a2)) then ((op_Fits.f a0_0 a0_1 a0_2 a0_3 a0_4 a0_5 a0_6 a0_7 l0_8 (wrap64 ((wrap64 (a1)) + 1)) (wrap64 (a2))).bind fun t327 => (if t327 = 0 then ((op_Fits.f a0_0 a0_1 a0_2 a0_3 a0_4 a0_5 a0_6 a0_7 l0_8 (wrap64 (a1)) (wrap64 ((wrap64 (a2)) + 1))).bind fun t328 => (some (t328 == 0))) else (some false))) else (some false)) else ((op_Fits.f a0_0 a0_1 a0_2 a0_3 a0_4 a0_5 a0_6 a0_7 l0_8 (wrap64 ((wrap64 (a1)) + 1)) (wrap64 (a2))).bind fun t329 => (if t329 = 0 then ((op_Fits.f a0_0 a0_1 a0_2 a0_3 a0_4 a0_5 a0_6 a0_7 l0_8 (wrap64 (a1)) (wrap64 ((wrap64 (a2)) + 1))).bind fun t330 => (some (t330 == 0))) else (some false)))) else (some false)) else (some false)) else (if t325 = true then (if t324 < (wrap64 (a2)) then ((op_Fits.f a0_0 a0_1 a0_2 a0_3 a0_4 a0_5 a0_6 a0_7 l0_8 (wrap64 ((wrap64 (a1)) + 1)) (wrap64 (a2))).bind fun t331 => (if t331 = 0 then ((op_Fits.f a0_0 a0_1 a0_2 a0_3 a0_4 a0_5 a0_6 a0_7 l0_8 (wrap64 (a1)) (wrap64 ((wrap64 (a2)) + 1))).bind fun t332 => (some (t332 == 0))) else (some false))) else (some false)) else ((op_Fits.f a0_0 a0_1 a0_2 a0_3 a0_4 a0_5 a0_6 a0_7 l0_8 (wrap64 ((wrap64 (a1)) + 1)) (wrap64 (a2))).bind fun t333 => (if t333 = 0 then ((op_Fits.f a0_0 a0_1 a0_2 a0_3 a0_4 a0_5 a0_6 a0_7 l0_8 (wrap64 (a1)) (wrap64 ((wrap64 (a2)) + 1))).bind fun t334 => (some (t334 == 0))) else (some false))))) else (some false))) = some r := H
              have A27 := Aside0.mk A270
              clear A270
              replace H := Option.bind_eq_some_iff.mp H
              obtain ⟨t326, A280, H⟩ := H
              replace H : (if t326 = true then (if t323 = true then (if t322 ≥ 0 then (if t322 < (wrap64 (a1)) then (if t325 = true then (if t324 < (wrap64 (a2)) then ((op_Fits.f a0_0 a0_1 a0_2 a0_3 a0_4 a0_5 a0_6 a0_7 l0_8 (wrap64 ((wrap64 (a1)) + 1)) (wrap64 (a2))).bind fun t327 => (if t327 = 0 then ((op_Fits.f a0_0 a0_1 a0_2 a0_3 a0_4 a0_5 a0_6 a0_7 l0_8 (wrap64 (a1)) (wrap64 ((wrap64 (a2)) + 1))).bind fun t328 => (some (t328 == 0))) else (some false))) else (some false)) else ((op_Fits.f a0_0 a0_1 a0_2 a0_3 a0_4 a0_5 a0_6 a0_7 l0_8 (wrap64 ((wrap64 (a1)) + 1)) (wrap64 (a2))).bind fun t329 => (if t329 = 0 then ((op_Fits.f a0_0 a0_1 a0_2 a0_3 a0_4 a0_5 a0_6 a0_7 l0_8 (wrap64 (a1)) (wrap64 ((wrap64 (a2)) + 1))).bind fun t330 => (some (t330 == 0))) else (some false)))) else (some false)) else (some false)) else (if t325 = true then (if t324 < (wrap64 (a2)) then ((op_Fits.f a0_0 a0_1 a0_2 a0_3 a0_4 a0_5 a0_6 a0_7 l0_8 (wrap64 ((wrap64 (a1)) + 1)) (wrap64 (a2))).bind fun t331 => (if t331 = 0 then ((op_Fits.f a0_0 a0_1 a0_2 a0_3 a0_4 a0_5 a0_6 a0_7 l0_8 (wrap64 (a1)) (wrap64 ((wrap64 (a2)) + 1))).bind fun t332 => (some (t332 == 0))) else (some false))) else (some false)) else ((op_Fits.f a0_0 a0_1 a0_2 a0_3 a0_4 a0_5 a0_6 a0_7 l0_8 (wrap64 ((wrap64 (a1)) + 1)) (wrap64 (a2))).bind fun t333 => (if t333 = 0 then ((op_Fits.f a0_0 a0_1 a0_2 a0_3 a0_4 a0_5 a0_6 a0_7 l0_8 (wrap64 (a1)) (wrap64 ((wrap64 (a2)) + 1))).bind fun t334 => (some (t334 == 0))) else (some false))))) else (some false)) = some r := H
              have A28 := Aside0.mk A280
              clear A280
              by_cases c29 : t326 = true
              · subst c29
                have H1 : (if t323 = true then (if t322 ≥ 0 then (if t322 < (wrap64 (a1)) then (if t325 = true then (if t324 < (wrap64 (a2)) then ((op_Fits.f a0_0 a0_1 a0_2 a0_3 a0_4 a0_5 a0_6 a0_7 l0_8 (wrap64 ((wrap64 (a1)) + 1)) (wrap64 (a2))).bind fun t327 => (if t327 = 0 then ((op_Fits.f a0_0 a0_1 a0_2 a0_3 a0_4 a0_5 a0_6 a0_7 l0_8 (wrap64 (a1)) (wrap64 ((wrap64 (a2)) + 1))).bind fun t328 => (some (t328 == 0))) else (some false))) else (some false)) else ((op_Fits.f a0_0 a0_1 a0_2 a0_3 a0_4 a0_5 a0_6 a0_7 l0_8 (wrap64 ((wrap64 (a1)) + 1)) (wrap64 (a2))).bind fun t329 => (if t329 = 0 then ((op_Fits.f a0_0 a0_1 a0_2 a0_3 a0_4 a0_5 a0_6 a0_7 l0_8 (wrap64 (a1)) (wrap64 ((wrap64 (a2)) + 1))).bind fun t330 => (some (t330 == 0))) else (some false)))) else (some false)) else (some false)) else (if t325 = true then (if t324 < (wrap64 (a2)) then ((op_Fits.f a0_0 a0_1 a0_2 a0_3 a0_4 a0_5 a0_6 a0_7 l0_8 (wrap64 ((wrap64 (a1)) + 1)) (wrap64 (a2))).bind fun t331 => (if t331 = 0 then ((op_Fits.f a0_0 a0_1 a0_2 a0_3 a0_4 a0_5 a0_6 a0_7 l0_8 (wrap64 (a1)) (wrap64 ((wrap64 (a2)) + 1))).bind fun t332 => (some (t332 == 0))) else (some false))) else (some false)) else ((op_Fits.f a0_0 a0_1 a0_2 a0_3 a0_4 a0_5 a0_6 a0_7 l0_8 (wrap64 ((wrap64 (a1)) + 1)) (wrap64 (a2))).bind fun t333 => (if t333 = 0 then ((op_Fits.f a0_0 a0_1 a0_2 a0_3 a0_4 a0_5 a0_6 a0_7 l0_8 (wrap64 (a1)) (wrap64 ((wrap64 (a2)) + 1))).bind fun t334 => (some (t334 == 0))) else (some false))))) = some r := by rw [if_pos rfl] at H; exact H
                clear H
                have H := H1
                clear H1
                by_cases c30 : t323 = true
                · subst c30
                  have H1 : (if t322 ≥ 0 then (if t322 < (wrap64 (a1)) then (if t325 = true then (if t324 < (wrap64 (a2)) then ((op_Fits.f a0_0 a0_1 a0_2 a0_3 a0_4 a0_5 a0_6 a0_7 l0_8 (wrap64 ((wrap64 (a1)) + 1)) (wrap64 (a2))).bind fun t327 => (if t327 = 0 then ((op_Fits.f a0_0 a0_1 a0_2 a0_3 a0_4 a0_5 a0_6 a0_7 l0_8 (wrap64 (a1)) (wrap64 ((wrap64 (a2)) + 1))).bind fun t328 => (some (t328 == 0))) else (some false))) else (some false)) else ((op_Fits.f a0_0 a0_1 a0_2 a0_3 a0_4 a0_5 a0_6 a0_7 l0_8 (wrap64 ((wrap64 (a1)) + 1)) (wrap64 (a2))).bind fun t329 => (if t329 = 0 then ((op_Fits.f a0_0 a0_1 a0_2 a0_3 a0_4 a0_5 a0_6 a0_7 l0_8 (wrap64 (a1)) (wrap64 ((wrap64 (a2)) + 1))).bind fun t330 => (some (t330 == 0))) else (some false)))) else (some false)) else (some false)) = some r := by rw [if_pos rfl] at H; exact H
                  clear H
                  have H := H1
                  clear H1
                  by_cases c31 : t322 ≥ 0
                  · rw [if_pos c31] at H
                    have c31b0 : decide (0 ≤ t322) = true := decide_eq_true c31
                    clear c31
                    by_cases c32 : t322 < (wrap64 (a1))
                    · rw [if_pos c32] at H
                      have c32b0 : decide (t322 < (wrap64 (a1))) = true := decide_eq_true c32
                      clear c32
                      by_cases c33 : t325 = true
                      · subst c33
                        have H1 : (if t324 < (wrap64 (a2)) then ((op_Fits.f a0_0 a0_1 a0_2 a0_3 a0_4 a0_5 a0_6 a0_7 l0_8 (wrap64 ((wrap64 (a1)) + 1)) (wrap64 (a2))).bind fun t327 => (if t327 = 0 then ((op_Fits.f a0_0 a0_1 a0_2 a0_3 a0_4 a0_5 a0_6 a0_7 l0_8 (wrap64 (a1)) (wrap64 ((wrap64 (a2)) + 1))).bind fun t328 => (some (t328 == 0))) else (some false))) else (some false)) = some r := by rw [if_pos rfl] at H; exact H
                        clear H
                        have H := H1
                        clear H1
                        by_cases c34 : t324 < (wrap64 (a2))
                        · rw [if_pos c34] at H
                          have c34b0 : decide (t324 < (wrap64 (a2))) = true := decide_eq_true c34
                          clear c34
                          replace H := Option.bind_eq_some_iff.mp H
                          obtain ⟨t327, A350, H⟩ := H
                          replace H : (if t327 = 0 then ((op_Fits.f a0_0 a0_1 a0_2 a0_3 a0_4 a0_5 a0_6 a0_7 l0_8 (wrap64 (a1)) (wrap64 ((wrap64 (a2)) + 1))).bind fun t328 => (some (t328 == 0))) else (some false)) = some r := H
                          have A35 := Aside0.mk A350
                          clear A350
                          by_cases c36 : t327 = 0
                          · rw [if_pos c36] at H
                            have c36b0 : (t327 == 0) = true := beq_iff_eq.mpr c36
                            have c36b1 : (t327 != 0) = false := bne_eq_false_iff_eq.mpr c36
                            clear c36
                            replace H := Option.bind_eq_some_iff.mp H
                            obtain ⟨t328, A370, H⟩ := H
                            replace H : (some (t328 == 0)) = some r := H
                            have A37 := Aside0.mk A370
                            clear A370
                            obtain rfl := Option.some.inj H
                            simp only [Option.some.injEq, Prod.mk.injEq] at H
                            obtain ⟨rfl⟩ := H
                            obtain ⟨Ao38, co38, eo38⟩ := Kd.R_slice HO_7.out
                            subst eo38
                            have hcz39_0 : wr.cell? ⟨gb313, 0, none⟩ = some (.int .i64 a0_0) := (blk_cell BK313.out 0).trans rfl
                            have hcz39_1 : wr.cell? ⟨gb313, 1, none⟩ = some (.int .i64 a0_1) := (blk_cell BK313.out 1).trans rfl
                            have hcz39_2 : wr.cell? ⟨gb313, 2, none⟩ = some (.int .i64 a0_2) := (blk_cell BK313.out 2).trans rfl
                            have hcz39_3 : wr.cell? ⟨gb313, 3, none⟩ = some (.int .i64 a0_3) := (blk_cell BK313.out 3).trans rfl
                            have hcz39_4 : wr.cell? ⟨gb313, 4, none⟩ = some (.int .i64 a0_4) := (blk_cell BK313.out 4).trans rfl
                            have hcz39_5 : wr.cell? ⟨gb313, 5, none⟩ = some (.string a0_5) := (blk_cell BK313.out 5).trans rfl
                            have hcz39_6 : wr.cell? ⟨gb313, 6, none⟩ = some (.string a0_6) := (blk_cell BK313.out 6).trans rfl
                            have hcz39_7 : wr.cell? ⟨gb313, 7, none⟩ = some (.string a0_7) := (blk_cell BK313.out 7).trans rfl
                            have hcz39_8 : wr.cell? ⟨gb313, 8, none⟩ = some (.slice A0_8 l0_8.length c0_8) := (blk_cell BK313.out 8).trans rfl
                            have hfz39_0 := blk_frozen BK313.out 0
                            have hfz39_1 := blk_frozen BK313.out 1
                            have hfz39_2 := blk_frozen BK313.out 2
                            have hfz39_3 := blk_frozen BK313.out 3
                            have hfz39_4 := blk_frozen BK313.out 4
                            have hfz39_5 := blk_frozen BK313.out 5
                            have hfz39_6 := blk_frozen BK313.out 6
                            have hfz39_7 := blk_frozen BK313.out 7
                            have hfz39_8 := blk_frozen BK313.out 8
                            go_wp2_with (first | ((with_reducible refine gate_callee (f := 14) rfl ?_); refine goesL_ (some 49) rfl rfl Tryd.func14 (by kernel_rfl) rfl #[.agg #[.int .i64 a0_0, .int .i64 a0_1, .int .i64 a0_2, .int .i64 a0_3, .int .i64 a0_4, .string a0_5, .string a0_6, .string a0_7, .slice A0_8 l0_8.length c0_8]] rfl (by (try simp only [List.map_toArray, List.map_cons, List.map_nil]); first | done | rfl | (simp only [List.length_drop, List.length_take]; rfl)) ?_; (with_reducible refine (op_Sets.calls k2 a0_0 a0_1 a0_2 a0_3 a0_4 a0_5 a0_6 a0_7 _ _ l0_8 t322 true _ ?side3 ?side1 ?side2 A26.out).mono ?_); (case side1 => repeat (first | exact (Kd.C_below HR0_8.out HB.out) | (with_reducible refine Kd.C_alloc ?_ _) | (with_reducible refine Kd.C_drewN ?_ _) | (with_reducible refine Kd.C_drew ?_))); (case side2 => exact HC0_8.out); (case side3 => repeat (first | exact (GW.below HG.out HB.out) | (with_reducible refine GW.alloc ?_ _) | (with_reducible refine GW.drewN ?_ _) | (with_reducible refine GW.drew ?_))); rintro e w40 ⟨rfl, hb⟩; refine ⟨_, rfl, ?_⟩; have n0_ := Aside0.mk (Kd.R_below (by (with_reducible repeat (first | apply Kd.R_alloc | apply Kd.R_drewN | apply Kd.R_drew)); exact HO_7.out) hb); have n1_ := Aside0.mk (blk_below (g := gb313) (o := .cells #[.int .i64 a0_0, .int .i64 a0_1, .int .i64 a0_2, .int .i64 a0_3, .int .i64 a0_4, .string a0_5, .string a0_6, .string a0_7, .slice A0_8 l0_8.length c0_8] 44 (0, 0)) (by (with_reducible repeat (first | refine blk_drewN ?_ _ | refine blk_drew ?_ | refine blk_alloc ?_ _)); exact BK313.out) hb); have n2_ := Aside0.mk (below_step (by repeat (first | (with_reducible first | exact HB.out | apply below_alloc | apply pw_below_drewN | apply below_drew1 | refine below_set ?_ GE313.out) | exact HB.out)) hb); clear HO_7; clear BK313; clear HB; have HO_7 := n0_; have BK313 := n1_; have HB := n2_; clear n0_ n1_ n2_; (try clear hb); (try clear hb2); (try clear hk); (try clear hi); have hcz41_0 : w40.cell? ⟨gb313, 0, none⟩ = some (.int .i64 a0_0) := (blk_cell BK313.out 0).trans rfl; have hcz41_1 : w40.cell? ⟨gb313, 1, none⟩ = some (.int .i64 a0_1) := (blk_cell BK313.out 1).trans rfl; have hcz41_2 : w40.cell? ⟨gb313, 2, none⟩ = some (.int .i64 a0_2) := (blk_cell BK313.out 2).trans rfl; have hcz41_3 : w40.cell? ⟨gb313, 3, none⟩ = some (.int .i64 a0_3) := (blk_cell BK313.out 3).trans rfl; have hcz41_4 : w40.cell? ⟨gb313, 4, none⟩ = some (.int .i64 a0_4) := (blk_cell BK313.out 4).trans rfl; have hcz41_5 : w40.cell? ⟨gb313, 5, none⟩ = some (.string a0_5) := (blk_cell BK313.out 5).trans rfl; have hcz41_6 : w40.cell? ⟨gb313, 6, none⟩ = some (.string a0_6) := (blk_cell BK313.out 6).trans rfl; have hcz41_7 : w40.cell? ⟨gb313, 7, none⟩ = some (.string a0_7) := (blk_cell BK313.out 7).trans rfl; have hcz41_8 : w40.cell? ⟨gb313, 8, none⟩ = some (.slice A0_8 l0_8.length c0_8) := (blk_cell BK313.out 8).trans rfl; have hfz41_0 := blk_frozen BK313.out 0; have hfz41_1 := blk_frozen BK313.out 1; have hfz41_2 := blk_frozen BK313.out 2; have hfz41_3 := blk_frozen BK313.out 3; have hfz41_4 := blk_frozen BK313.out 4; have hfz41_5 := blk_frozen BK313.out 5; have hfz41_6 := blk_frozen BK313.out 6; have hfz41_7 := blk_frozen BK313.out 7; have hfz41_8 := blk_frozen BK313.out 8) | ((with_reducible refine gate_callee (f := 26) rfl ?_); refine goesL_ (some 54) rfl rfl Tryd.func26 (by kernel_rfl) rfl #[.agg #[.int .i64 a0_0, .int .i64 a0_1, .int .i64 a0_2, .int .i64 a0_3, .int .i64 a0_4, .string a0_5, .string a0_6, .string a0_7, .slice A0_8 l0_8.length c0_8]] rfl (by (try simp only [List.map_toArray, List.map_cons, List.map_nil]); first | done | rfl | (simp only [List.length_drop, List.length_take]; rfl)) ?_; (with_reducible refine (op_Target.calls a0_0 a0_1 a0_2 a0_3 a0_4 a0_5 a0_6 a0_7 _ _ l0_8 t324 true _ ?side3 ?side1 ?side2 A27.out).mono ?_); (case side1 => repeat (first | exact (Kd.C_below HR0_8.out HB.out) | (with_reducible refine Kd.C_alloc ?_ _) | (with_reducible refine Kd.C_drewN ?_ _) | (with_reducible refine Kd.C_drew ?_))); (case side2 => exact HC0_8.out); (case side3 => repeat (first | exact (GW.below HG.out HB.out) | (with_reducible refine GW.alloc ?_ _) | (with_reducible refine GW.drewN ?_ _) | (with_reducible refine GW.drew ?_))); rintro e w42 ⟨rfl, hb⟩; refine ⟨_, rfl, ?_⟩; have n0_ := Aside0.mk (Kd.R_below (by (with_reducible repeat (first | apply Kd.R_alloc | apply Kd.R_drewN | apply Kd.R_drew)); exact HO_7.out) hb); have n1_ := Aside0.mk (blk_below (g := gb313) (o := .cells #[.int .i64 a0_0, .int .i64 a0_1, .int .i64 a0_2, .int .i64 a0_3, .int .i64 a0_4, .string a0_5, .string a0_6, .string a0_7, .slice A0_8 l0_8.length c0_8] 44 (0, 0)) (by (with_reducible repeat (first | refine blk_drewN ?_ _ | refine blk_drew ?_ | refine blk_alloc ?_ _)); exact BK313.out) hb); have n2_ := Aside0.mk (below_step (by repeat (first | (with_reducible first | exact HB.out | apply below_alloc | apply pw_below_drewN | apply below_drew1 | refine below_set ?_ GE313.out) | exact HB.out)) hb); clear HO_7; clear BK313; clear HB; have HO_7 := n0_; have BK313 := n1_; have HB := n2_; clear n0_ n1_ n2_; (try clear hb); (try clear hb2); (try clear hk); (try clear hi)) | ((with_reducible refine gate_callee (f := 16) rfl ?_); refine goesL_ (some 57) rfl rfl Tryd.func16 (by kernel_rfl) rfl #[] rfl (by (try simp only [List.map_toArray, List.map_cons, List.map_nil]); first | done | rfl | (simp only [List.length_drop, List.length_take]; rfl)) ?_; (with_reducible refine (secateurlaw07_live.calls k2  true _ ?side1 A28.out).mono ?_); (case side1 => repeat (first | exact (GW.below HG.out HB.out) | (with_reducible refine GW.alloc ?_ _) | (with_reducible refine GW.drewN ?_ _) | (with_reducible refine GW.drew ?_))); rintro e w43 ⟨rfl, hb⟩; refine ⟨_, rfl, ?_⟩; have n0_ := Aside0.mk (Kd.R_below (by (with_reducible repeat (first | apply Kd.R_alloc | apply Kd.R_drewN | apply Kd.R_drew)); exact HO_7.out) hb); have n1_ := Aside0.mk (blk_below (g := gb313) (o := .cells #[.int .i64 a0_0, .int .i64 a0_1, .int .i64 a0_2, .int .i64 a0_3, .int .i64 a0_4, .string a0_5, .string a0_6, .string a0_7, .slice A0_8 l0_8.length c0_8] 44 (0, 0)) (by (with_reducible repeat (first | refine blk_drewN ?_ _ | refine blk_drew ?_ | refine blk_alloc ?_ _)); exact BK313.out) hb); have n2_ := Aside0.mk (below_step (by repeat (first | (with_reducible first | exact HB.out | apply below_alloc | apply pw_below_drewN | apply below_drew1 | refine below_set ?_ GE313.out) | exact HB.out)) hb); clear HO_7; clear BK313; clear HB; have HO_7 := n0_; have BK313 := n1_; have HB := n2_; clear n0_ n1_ n2_; (try clear hb); (try clear hb2); (try clear hk); (try clear hi); have hcz44_0 : w43.cell? ⟨gb313, 0, none⟩ = some (.int .i64 a0_0) := (blk_cell BK313.out 0).trans rfl; have hcz44_1 : w43.cell? ⟨gb313, 1, none⟩ = some (.int .i64 a0_1) := (blk_cell BK313.out 1).trans rfl; have hcz44_2 : w43.cell? ⟨gb313, 2, none⟩ = some (.int .i64 a0_2) := (blk_cell BK313.out 2).trans rfl; have hcz44_3 : w43.cell? ⟨gb313, 3, none⟩ = some (.int .i64 a0_3) := (blk_cell BK313.out 3).trans rfl; have hcz44_4 : w43.cell? ⟨gb313, 4, none⟩ = some (.int .i64 a0_4) := (blk_cell BK313.out 4).trans rfl; have hcz44_5 : w43.cell? ⟨gb313, 5, none⟩ = some (.string a0_5) := (blk_cell BK313.out 5).trans rfl; have hcz44_6 : w43.cell? ⟨gb313, 6, none⟩ = some (.string a0_6) := (blk_cell BK313.out 6).trans rfl; have hcz44_7 : w43.cell? ⟨gb313, 7, none⟩ = some (.string a0_7) := (blk_cell BK313.out 7).trans rfl; have hcz44_8 : w43.cell? ⟨gb313, 8, none⟩ = some (.slice A0_8 l0_8.length c0_8) := (blk_cell BK313.out 8).trans rfl; have hfz44_0 := blk_frozen BK313.out 0; have hfz44_1 := blk_frozen BK313.out 1; have hfz44_2 := blk_frozen BK313.out 2; have hfz44_3 := blk_frozen BK313.out 3; have hfz44_4 := blk_frozen BK313.out 4; have hfz44_5 := blk_frozen BK313.out 5; have hfz44_6 := blk_frozen BK313.out 6; have hfz44_7 := blk_frozen BK313.out 7; have hfz44_8 := blk_frozen BK313.out 8) | (go_at_call 23; (with_reducible refine (op_Fits.calls a0_0 a0_1 a0_2 a0_3 a0_4 a0_5 a0_6 a0_7 _ _ l0_8 (wrap64 ((wrap64 (a1)) + 1)) (wrap64 (a2)) t327 _ ?side3 ?side1 ?side2 A35.out).mono ?_); (case side1 => repeat (first | exact (Kd.C_below HR0_8.out HB.out) | (with_reducible refine Kd.C_alloc ?_ _) | (with_reducible refine Kd.C_drewN ?_ _) | (with_reducible refine Kd.C_drew ?_))); (case side2 => exact HC0_8.out); (case side3 => repeat (first | exact (GW.below HG.out HB.out) | (with_reducible refine GW.alloc ?_ _) | (with_reducible refine GW.drewN ?_ _) | (with_reducible refine GW.drew ?_))); rintro e w45 ⟨rfl, hb⟩; have n0_ := Aside0.mk (Kd.R_below (by (with_reducible repeat (first | apply Kd.R_alloc | apply Kd.R_drewN | apply Kd.R_drew)); exact HO_7.out) hb); have n1_ := Aside0.mk (blk_below (g := gb313) (o := .cells #[.int .i64 a0_0, .int .i64 a0_1, .int .i64 a0_2, .int .i64 a0_3, .int .i64 a0_4, .string a0_5, .string a0_6, .string a0_7, .slice A0_8 l0_8.length c0_8] 44 (0, 0)) (by (with_reducible repeat (first | refine blk_drewN ?_ _ | refine blk_drew ?_ | refine blk_alloc ?_ _)); exact BK313.out) hb); have n2_ := Aside0.mk (below_step (by repeat (first | (with_reducible first | exact HB.out | apply below_alloc | apply pw_below_drewN | apply below_drew1 | refine below_set ?_ GE313.out) | exact HB.out)) hb); clear HO_7; clear BK313; clear HB; have HO_7 := n0_; have BK313 := n1_; have HB := n2_; clear n0_ n1_ n2_; (try clear hb); (try clear hb2); (try clear hk); (try clear hi); have hcz46_0 : w45.cell? ⟨gb313, 0, none⟩ = some (.int .i64 a0_0) := (blk_cell BK313.out 0).trans rfl; have hcz46_1 : w45.cell? ⟨gb313, 1, none⟩ = some (.int .i64 a0_1) := (blk_cell BK313.out 1).trans rfl; have hcz46_2 : w45.cell? ⟨gb313, 2, none⟩ = some (.int .i64 a0_2) := (blk_cell BK313.out 2).trans rfl; have hcz46_3 : w45.cell? ⟨gb313, 3, none⟩ = some (.int .i64 a0_3) := (blk_cell BK313.out 3).trans rfl; have hcz46_4 : w45.cell? ⟨gb313, 4, none⟩ = some (.int .i64 a0_4) := (blk_cell BK313.out 4).trans rfl; have hcz46_5 : w45.cell? ⟨gb313, 5, none⟩ = some (.string a0_5) := (blk_cell BK313.out 5).trans rfl; have hcz46_6 : w45.cell? ⟨gb313, 6, none⟩ = some (.string a0_6) := (blk_cell BK313.out 6).trans rfl; have hcz46_7 : w45.cell? ⟨gb313, 7, none⟩ = some (.string a0_7) := (blk_cell BK313.out 7).trans rfl; have hcz46_8 : w45.cell? ⟨gb313, 8, none⟩ = some (.slice A0_8 l0_8.length c0_8) := (blk_cell BK313.out 8).trans rfl; have hfz46_0 := blk_frozen BK313.out 0; have hfz46_1 := blk_frozen BK313.out 1; have hfz46_2 := blk_frozen BK313.out 2; have hfz46_3 := blk_frozen BK313.out 3; have hfz46_4 := blk_frozen BK313.out 4; have hfz46_5 := blk_frozen BK313.out 5; have hfz46_6 := blk_frozen BK313.out 6; have hfz46_7 := blk_frozen BK313.out 7; have hfz46_8 := blk_frozen BK313.out 8) | (go_at_call 23; (with_reducible refine (op_Fits.calls a0_0 a0_1 a0_2 a0_3 a0_4 a0_5 a0_6 a0_7 _ _ l0_8 (wrap64 (a1)) (wrap64 ((wrap64 (a2)) + 1)) t328 _ ?side3 ?side1 ?side2 A37.out).mono ?_); (case side1 => repeat (first | exact (Kd.C_below HR0_8.out HB.out) | (with_reducible refine Kd.C_alloc ?_ _) | (with_reducible refine Kd.C_drewN ?_ _) | (with_reducible refine Kd.C_drew ?_))); (case side2 => exact HC0_8.out); (case side3 => repeat (first | exact (GW.below HG.out HB.out) | (with_reducible refine GW.alloc ?_ _) | (with_reducible refine GW.drewN ?_ _) | (with_reducible refine GW.drew ?_))); rintro e w47 ⟨rfl, hb⟩; have n0_ := Aside0.mk (Kd.R_below (by (with_reducible repeat (first | apply Kd.R_alloc | apply Kd.R_drewN | apply Kd.R_drew)); exact HO_7.out) hb); have n1_ := Aside0.mk (blk_below (g := gb313) (o := .cells #[.int .i64 a0_0, .int .i64 a0_1, .int .i64 a0_2, .int .i64 a0_3, .int .i64 a0_4, .string a0_5, .string a0_6, .string a0_7, .slice A0_8 l0_8.length c0_8] 44 (0, 0)) (by (with_reducible repeat (first | refine blk_drewN ?_ _ | refine blk_drew ?_ | refine blk_alloc ?_ _)); exact BK313.out) hb); have n2_ := Aside0.mk (below_step (by repeat (first | (with_reducible first | exact HB.out | apply below_alloc | apply pw_below_drewN | apply below_drew1 | refine below_set ?_ GE313.out) | exact HB.out)) hb); clear HO_7; clear BK313; clear HB; have HO_7 := n0_; have BK313 := n1_; have HB := n2_; clear n0_ n1_ n2_; (try clear hb); (try clear hb2); (try clear hk); (try clear hi)))
                            go_ret
                            exact ⟨by first | rfl | (simp [errW_none, errW_some] <;> rfl) | (simp [*, errW_none, errW_some] <;> rfl), by repeat (first | (with_reducible first | exact HB.out | apply below_alloc | apply pw_below_drewN | apply below_drew1 | refine below_set ?_ GE313.out) | exact HB.out)⟩
                          · rw [if_neg c36] at H
                            have c36b0 : (t327 == 0) = false := beq_eq_false_iff_ne.mpr c36
                            have c36b1 : (t327 != 0) = true := bne_iff_ne.mpr c36
                            obtain rfl := Option.some.inj H
                            cases HRT.out
                        · rw [if_neg c34] at H
                          have c34b0 : decide (t324 < (wrap64 (a2))) = false := decide_eq_false c34
                          clear c34
                          obtain rfl := Option.some.inj H
                          cases HRT.out
                      · replace c33 := Bool.eq_false_iff.mpr c33
                        subst c33
                        have H1 : ((op_Fits.f a0_0 a0_1 a0_2 a0_3 a0_4 a0_5 a0_6 a0_7 l0_8 (wrap64 ((wrap64 (a1)) + 1)) (wrap64 (a2))).bind fun t329 => (if t329 = 0 then ((op_Fits.f a0_0 a0_1 a0_2 a0_3 a0_4 a0_5 a0_6 a0_7 l0_8 (wrap64 (a1)) (wrap64 ((wrap64 (a2)) + 1))).bind fun t330 => (some (t330 == 0))) else (some false))) = some r := by rw [if_neg (show ¬ (false = true) by decide)] at H; exact H
                        clear H
                        have H := H1
                        clear H1
                        replace H := Option.bind_eq_some_iff.mp H
                        obtain ⟨t329, A480, H⟩ := H
                        replace H : (if t329 = 0 then ((op_Fits.f a0_0 a0_1 a0_2 a0_3 a0_4 a0_5 a0_6 a0_7 l0_8 (wrap64 (a1)) (wrap64 ((wrap64 (a2)) + 1))).bind fun t330 => (some (t330 == 0))) else (some false)) = some r := H
                        have A48 := Aside0.mk A480
                        clear A480
                        by_cases c49 : t329 = 0
                        · rw [if_pos c49] at H
                          have c49b0 : (t329 == 0) = true := beq_iff_eq.mpr c49
                          have c49b1 : (t329 != 0) = false := bne_eq_false_iff_eq.mpr c49
                          clear c49
                          replace H := Option.bind_eq_some_iff.mp H
                          obtain ⟨t330, A500, H⟩ := H
                          replace H : (some (t330 == 0)) = some r := H
                          have A50 := Aside0.mk A500
                          clear A500
                          obtain rfl := Option.some.inj H
                          simp only [Option.some.injEq, Prod.mk.injEq] at H
                          obtain ⟨rfl⟩ := H
                          obtain ⟨Ao51, co51, eo51⟩ := Kd.R_slice HO_7.out
                          subst eo51
                          have hcz52_0 : wr.cell? ⟨gb313, 0, none⟩ = some (.int .i64 a0_0) := (blk_cell BK313.out 0).trans rfl
                          have hcz52_1 : wr.cell? ⟨gb313, 1, none⟩ = some (.int .i64 a0_1) := (blk_cell BK313.out 1).trans rfl
                          have hcz52_2 : wr.cell? ⟨gb313, 2, none⟩ = some (.int .i64 a0_2) := (blk_cell BK313.out 2).trans rfl
                          have hcz52_3 : wr.cell? ⟨gb313, 3, none⟩ = some (.int .i64 a0_3) := (blk_cell BK313.out 3).trans rfl
                          have hcz52_4 : wr.cell? ⟨gb313, 4, none⟩ = some (.int .i64 a0_4) := (blk_cell BK313.out 4).trans rfl
                          have hcz52_5 : wr.cell? ⟨gb313, 5, none⟩ = some (.string a0_5) := (blk_cell BK313.out 5).trans rfl
                          have hcz52_6 : wr.cell? ⟨gb313, 6, none⟩ = some (.string a0_6) := (blk_cell BK313.out 6).trans rfl
                          have hcz52_7 : wr.cell? ⟨gb313, 7, none⟩ = some (.string a0_7) := (blk_cell BK313.out 7).trans rfl
                          have hcz52_8 : wr.cell? ⟨gb313, 8, none⟩ = some (.slice A0_8 l0_8.length c0_8) := (blk_cell BK313.out 8).trans rfl
                          have hfz52_0 := blk_frozen BK313.out 0
                          have hfz52_1 := blk_frozen BK313.out 1
                          have hfz52_2 := blk_frozen BK313.out 2
                          have hfz52_3 := blk_frozen BK313.out 3
                          have hfz52_4 := blk_frozen BK313.out 4
                          have hfz52_5 := blk_frozen BK313.out 5
                          have hfz52_6 := blk_frozen BK313.out 6
                          have hfz52_7 := blk_frozen BK313.out 7
                          have hfz52_8 := blk_frozen BK313.out 8
                          go_wp2_with (first | ((with_reducible refine gate_callee (f := 14) rfl ?_); refine goesL_ (some 49) rfl rfl Tryd.func14 (by kernel_rfl) rfl #[.agg #[.int .i64 a0_0, .int .i64 a0_1, .int .i64 a0_2, .int .i64 a0_3, .int .i64 a0_4, .string a0_5, .string a0_6, .string a0_7, .slice A0_8 l0_8.length c0_8]] rfl (by (try simp only [List.map_toArray, List.map_cons, List.map_nil]); first | done | rfl | (simp only [List.length_drop, List.length_take]; rfl)) ?_; (with_reducible refine (op_Sets.calls k2 a0_0 a0_1 a0_2 a0_3 a0_4 a0_5 a0_6 a0_7 _ _ l0_8 t322 true _ ?side3 ?side1 ?side2 A26.out).mono ?_); (case side1 => repeat (first | exact (Kd.C_below HR0_8.out HB.out) | (with_reducible refine Kd.C_alloc ?_ _) | (with_reducible refine Kd.C_drewN ?_ _) | (with_reducible refine Kd.C_drew ?_))); (case side2 => exact HC0_8.out); (case side3 => repeat (first | exact (GW.below HG.out HB.out) | (with_reducible refine GW.alloc ?_ _) | (with_reducible refine GW.drewN ?_ _) | (with_reducible refine GW.drew ?_))); rintro e w53 ⟨rfl, hb⟩; refine ⟨_, rfl, ?_⟩; have n0_ := Aside0.mk (Kd.R_below (by (with_reducible repeat (first | apply Kd.R_alloc | apply Kd.R_drewN | apply Kd.R_drew)); exact HO_7.out) hb); have n1_ := Aside0.mk (blk_below (g := gb313) (o := .cells #[.int .i64 a0_0, .int .i64 a0_1, .int .i64 a0_2, .int .i64 a0_3, .int .i64 a0_4, .string a0_5, .string a0_6, .string a0_7, .slice A0_8 l0_8.length c0_8] 44 (0, 0)) (by (with_reducible repeat (first | refine blk_drewN ?_ _ | refine blk_drew ?_ | refine blk_alloc ?_ _)); exact BK313.out) hb); have n2_ := Aside0.mk (below_step (by repeat (first | (with_reducible first | exact HB.out | apply below_alloc | apply pw_below_drewN | apply below_drew1 | refine below_set ?_ GE313.out) | exact HB.out)) hb); clear HO_7; clear BK313; clear HB; have HO_7 := n0_; have BK313 := n1_; have HB := n2_; clear n0_ n1_ n2_; (try clear hb); (try clear hb2); (try clear hk); (try clear hi); have hcz54_0 : w53.cell? ⟨gb313, 0, none⟩ = some (.int .i64 a0_0) := (blk_cell BK313.out 0).trans rfl; have hcz54_1 : w53.cell? ⟨gb313, 1, none⟩ = some (.int .i64 a0_1) := (blk_cell BK313.out 1).trans rfl; have hcz54_2 : w53.cell? ⟨gb313, 2, none⟩ = some (.int .i64 a0_2) := (blk_cell BK313.out 2).trans rfl; have hcz54_3 : w53.cell? ⟨gb313, 3, none⟩ = some (.int .i64 a0_3) := (blk_cell BK313.out 3).trans rfl; have hcz54_4 : w53.cell? ⟨gb313, 4, none⟩ = some (.int .i64 a0_4) := (blk_cell BK313.out 4).trans rfl; have hcz54_5 : w53.cell? ⟨gb313, 5, none⟩ = some (.string a0_5) := (blk_cell BK313.out 5).trans rfl; have hcz54_6 : w53.cell? ⟨gb313, 6, none⟩ = some (.string a0_6) := (blk_cell BK313.out 6).trans rfl; have hcz54_7 : w53.cell? ⟨gb313, 7, none⟩ = some (.string a0_7) := (blk_cell BK313.out 7).trans rfl; have hcz54_8 : w53.cell? ⟨gb313, 8, none⟩ = some (.slice A0_8 l0_8.length c0_8) := (blk_cell BK313.out 8).trans rfl; have hfz54_0 := blk_frozen BK313.out 0; have hfz54_1 := blk_frozen BK313.out 1; have hfz54_2 := blk_frozen BK313.out 2; have hfz54_3 := blk_frozen BK313.out 3; have hfz54_4 := blk_frozen BK313.out 4; have hfz54_5 := blk_frozen BK313.out 5; have hfz54_6 := blk_frozen BK313.out 6; have hfz54_7 := blk_frozen BK313.out 7; have hfz54_8 := blk_frozen BK313.out 8) | ((with_reducible refine gate_callee (f := 26) rfl ?_); refine goesL_ (some 54) rfl rfl Tryd.func26 (by kernel_rfl) rfl #[.agg #[.int .i64 a0_0, .int .i64 a0_1, .int .i64 a0_2, .int .i64 a0_3, .int .i64 a0_4, .string a0_5, .string a0_6, .string a0_7, .slice A0_8 l0_8.length c0_8]] rfl (by (try simp only [List.map_toArray, List.map_cons, List.map_nil]); first | done | rfl | (simp only [List.length_drop, List.length_take]; rfl)) ?_; (with_reducible refine (op_Target.calls a0_0 a0_1 a0_2 a0_3 a0_4 a0_5 a0_6 a0_7 _ _ l0_8 t324 false _ ?side3 ?side1 ?side2 A27.out).mono ?_); (case side1 => repeat (first | exact (Kd.C_below HR0_8.out HB.out) | (with_reducible refine Kd.C_alloc ?_ _) | (with_reducible refine Kd.C_drewN ?_ _) | (with_reducible refine Kd.C_drew ?_))); (case side2 => exact HC0_8.out); (case side3 => repeat (first | exact (GW.below HG.out HB.out) | (with_reducible refine GW.alloc ?_ _) | (with_reducible refine GW.drewN ?_ _) | (with_reducible refine GW.drew ?_))); rintro e w55 ⟨rfl, hb⟩; refine ⟨_, rfl, ?_⟩; have n0_ := Aside0.mk (Kd.R_below (by (with_reducible repeat (first | apply Kd.R_alloc | apply Kd.R_drewN | apply Kd.R_drew)); exact HO_7.out) hb); have n1_ := Aside0.mk (blk_below (g := gb313) (o := .cells #[.int .i64 a0_0, .int .i64 a0_1, .int .i64 a0_2, .int .i64 a0_3, .int .i64 a0_4, .string a0_5, .string a0_6, .string a0_7, .slice A0_8 l0_8.length c0_8] 44 (0, 0)) (by (with_reducible repeat (first | refine blk_drewN ?_ _ | refine blk_drew ?_ | refine blk_alloc ?_ _)); exact BK313.out) hb); have n2_ := Aside0.mk (below_step (by repeat (first | (with_reducible first | exact HB.out | apply below_alloc | apply pw_below_drewN | apply below_drew1 | refine below_set ?_ GE313.out) | exact HB.out)) hb); clear HO_7; clear BK313; clear HB; have HO_7 := n0_; have BK313 := n1_; have HB := n2_; clear n0_ n1_ n2_; (try clear hb); (try clear hb2); (try clear hk); (try clear hi)) | ((with_reducible refine gate_callee (f := 16) rfl ?_); refine goesL_ (some 57) rfl rfl Tryd.func16 (by kernel_rfl) rfl #[] rfl (by (try simp only [List.map_toArray, List.map_cons, List.map_nil]); first | done | rfl | (simp only [List.length_drop, List.length_take]; rfl)) ?_; (with_reducible refine (secateurlaw07_live.calls k2  true _ ?side1 A28.out).mono ?_); (case side1 => repeat (first | exact (GW.below HG.out HB.out) | (with_reducible refine GW.alloc ?_ _) | (with_reducible refine GW.drewN ?_ _) | (with_reducible refine GW.drew ?_))); rintro e w56 ⟨rfl, hb⟩; refine ⟨_, rfl, ?_⟩; have n0_ := Aside0.mk (Kd.R_below (by (with_reducible repeat (first | apply Kd.R_alloc | apply Kd.R_drewN | apply Kd.R_drew)); exact HO_7.out) hb); have n1_ := Aside0.mk (blk_below (g := gb313) (o := .cells #[.int .i64 a0_0, .int .i64 a0_1, .int .i64 a0_2, .int .i64 a0_3, .int .i64 a0_4, .string a0_5, .string a0_6, .string a0_7, .slice A0_8 l0_8.length c0_8] 44 (0, 0)) (by (with_reducible repeat (first | refine blk_drewN ?_ _ | refine blk_drew ?_ | refine blk_alloc ?_ _)); exact BK313.out) hb); have n2_ := Aside0.mk (below_step (by repeat (first | (with_reducible first | exact HB.out | apply below_alloc | apply pw_below_drewN | apply below_drew1 | refine below_set ?_ GE313.out) | exact HB.out)) hb); clear HO_7; clear BK313; clear HB; have HO_7 := n0_; have BK313 := n1_; have HB := n2_; clear n0_ n1_ n2_; (try clear hb); (try clear hb2); (try clear hk); (try clear hi); have hcz57_0 : w56.cell? ⟨gb313, 0, none⟩ = some (.int .i64 a0_0) := (blk_cell BK313.out 0).trans rfl; have hcz57_1 : w56.cell? ⟨gb313, 1, none⟩ = some (.int .i64 a0_1) := (blk_cell BK313.out 1).trans rfl; have hcz57_2 : w56.cell? ⟨gb313, 2, none⟩ = some (.int .i64 a0_2) := (blk_cell BK313.out 2).trans rfl; have hcz57_3 : w56.cell? ⟨gb313, 3, none⟩ = some (.int .i64 a0_3) := (blk_cell BK313.out 3).trans rfl; have hcz57_4 : w56.cell? ⟨gb313, 4, none⟩ = some (.int .i64 a0_4) := (blk_cell BK313.out 4).trans rfl; have hcz57_5 : w56.cell? ⟨gb313, 5, none⟩ = some (.string a0_5) := (blk_cell BK313.out 5).trans rfl; have hcz57_6 : w56.cell? ⟨gb313, 6, none⟩ = some (.string a0_6) := (blk_cell BK313.out 6).trans rfl; have hcz57_7 : w56.cell? ⟨gb313, 7, none⟩ = some (.string a0_7) := (blk_cell BK313.out 7).trans rfl; have hcz57_8 : w56.cell? ⟨gb313, 8, none⟩ = some (.slice A0_8 l0_8.length c0_8) := (blk_cell BK313.out 8).trans rfl; have hfz57_0 := blk_frozen BK313.out 0; have hfz57_1 := blk_frozen BK313.out 1; have hfz57_2 := blk_frozen BK313.out 2; have hfz57_3 := blk_frozen BK313.out 3; have hfz57_4 := blk_frozen BK313.out 4; have hfz57_5 := blk_frozen BK313.out 5; have hfz57_6 := blk_frozen BK313.out 6; have hfz57_7 := blk_frozen BK313.out 7; have hfz57_8 := blk_frozen BK313.out 8) | (go_at_call 23; (with_reducible refine (op_Fits.calls a0_0 a0_1 a0_2 a0_3 a0_4 a0_5 a0_6 a0_7 _ _ l0_8 (wrap64 ((wrap64 (a1)) + 1)) (wrap64 (a2)) t329 _ ?side3 ?side1 ?side2 A48.out).mono ?_); (case side1 => repeat (first | exact (Kd.C_below HR0_8.out HB.out) | (with_reducible refine Kd.C_alloc ?_ _) | (with_reducible refine Kd.C_drewN ?_ _) | (with_reducible refine Kd.C_drew ?_))); (case side2 => exact HC0_8.out); (case side3 => repeat (first | exact (GW.below HG.out HB.out) | (with_reducible refine GW.alloc ?_ _) | (with_reducible refine GW.drewN ?_ _) | (with_reducible refine GW.drew ?_))); rintro e w58 ⟨rfl, hb⟩; have n0_ := Aside0.mk (Kd.R_below (by (with_reducible repeat (first | apply Kd.R_alloc | apply Kd.R_drewN | apply Kd.R_drew)); exact HO_7.out) hb); have n1_ := Aside0.mk (blk_below (g := gb313) (o := .cells #[.int .i64 a0_0, .int .i64 a0_1, .int .i64 a0_2, .int .i64 a0_3, .int .i64 a0_4, .string a0_5, .string a0_6, .string a0_7, .slice A0_8 l0_8.length c0_8] 44 (0, 0)) (by (with_reducible repeat (first | refine blk_drewN ?_ _ | refine blk_drew ?_ | refine blk_alloc ?_ _)); exact BK313.out) hb); have n2_ := Aside0.mk (below_step (by repeat (first | (with_reducible first | exact HB.out | apply below_alloc | apply pw_below_drewN | apply below_drew1 | refine below_set ?_ GE313.out) | exact HB.out)) hb); clear HO_7; clear BK313; clear HB; have HO_7 := n0_; have BK313 := n1_; have HB := n2_; clear n0_ n1_ n2_; (try clear hb); (try clear hb2); (try clear hk); (try clear hi); have hcz59_0 : w58.cell? ⟨gb313, 0, none⟩ = some (.int .i64 a0_0) := (blk_cell BK313.out 0).trans rfl; have hcz59_1 : w58.cell? ⟨gb313, 1, none⟩ = some (.int .i64 a0_1) := (blk_cell BK313.out 1).trans rfl; have hcz59_2 : w58.cell? ⟨gb313, 2, none⟩ = some (.int .i64 a0_2) := (blk_cell BK313.out 2).trans rfl; have hcz59_3 : w58.cell? ⟨gb313, 3, none⟩ = some (.int .i64 a0_3) := (blk_cell BK313.out 3).trans rfl; have hcz59_4 : w58.cell? ⟨gb313, 4, none⟩ = some (.int .i64 a0_4) := (blk_cell BK313.out 4).trans rfl; have hcz59_5 : w58.cell? ⟨gb313, 5, none⟩ = some (.string a0_5) := (blk_cell BK313.out 5).trans rfl; have hcz59_6 : w58.cell? ⟨gb313, 6, none⟩ = some (.string a0_6) := (blk_cell BK313.out 6).trans rfl; have hcz59_7 : w58.cell? ⟨gb313, 7, none⟩ = some (.string a0_7) := (blk_cell BK313.out 7).trans rfl; have hcz59_8 : w58.cell? ⟨gb313, 8, none⟩ = some (.slice A0_8 l0_8.length c0_8) := (blk_cell BK313.out 8).trans rfl; have hfz59_0 := blk_frozen BK313.out 0; have hfz59_1 := blk_frozen BK313.out 1; have hfz59_2 := blk_frozen BK313.out 2; have hfz59_3 := blk_frozen BK313.out 3; have hfz59_4 := blk_frozen BK313.out 4; have hfz59_5 := blk_frozen BK313.out 5; have hfz59_6 := blk_frozen BK313.out 6; have hfz59_7 := blk_frozen BK313.out 7; have hfz59_8 := blk_frozen BK313.out 8) | (go_at_call 23; (with_reducible refine (op_Fits.calls a0_0 a0_1 a0_2 a0_3 a0_4 a0_5 a0_6 a0_7 _ _ l0_8 (wrap64 (a1)) (wrap64 ((wrap64 (a2)) + 1)) t330 _ ?side3 ?side1 ?side2 A50.out).mono ?_); (case side1 => repeat (first | exact (Kd.C_below HR0_8.out HB.out) | (with_reducible refine Kd.C_alloc ?_ _) | (with_reducible refine Kd.C_drewN ?_ _) | (with_reducible refine Kd.C_drew ?_))); (case side2 => exact HC0_8.out); (case side3 => repeat (first | exact (GW.below HG.out HB.out) | (with_reducible refine GW.alloc ?_ _) | (with_reducible refine GW.drewN ?_ _) | (with_reducible refine GW.drew ?_))); rintro e w60 ⟨rfl, hb⟩; have n0_ := Aside0.mk (Kd.R_below (by (with_reducible repeat (first | apply Kd.R_alloc | apply Kd.R_drewN | apply Kd.R_drew)); exact HO_7.out) hb); have n1_ := Aside0.mk (blk_below (g := gb313) (o := .cells #[.int .i64 a0_0, .int .i64 a0_1, .int .i64 a0_2, .int .i64 a0_3, .int .i64 a0_4, .string a0_5, .string a0_6, .string a0_7, .slice A0_8 l0_8.length c0_8] 44 (0, 0)) (by (with_reducible repeat (first | refine blk_drewN ?_ _ | refine blk_drew ?_ | refine blk_alloc ?_ _)); exact BK313.out) hb); have n2_ := Aside0.mk (below_step (by repeat (first | (with_reducible first | exact HB.out | apply below_alloc | apply pw_below_drewN | apply below_drew1 | refine below_set ?_ GE313.out) | exact HB.out)) hb); clear HO_7; clear BK313; clear HB; have HO_7 := n0_; have BK313 := n1_; have HB := n2_; clear n0_ n1_ n2_; (try clear hb); (try clear hb2); (try clear hk); (try clear hi)))
                          go_ret
                          exact ⟨by first | rfl | (simp [errW_none, errW_some] <;> rfl) | (simp [*, errW_none, errW_some] <;> rfl), by repeat (first | (with_reducible first | exact HB.out | apply below_alloc | apply pw_below_drewN | apply below_drew1 | refine below_set ?_ GE313.out) | exact HB.out)⟩
                        · rw [if_neg c49] at H
                          have c49b0 : (t329 == 0) = false := beq_eq_false_iff_ne.mpr c49
                          have c49b1 : (t329 != 0) = true := bne_iff_ne.mpr c49
                          obtain rfl := Option.some.inj H
                          cases HRT.out
                    · rw [if_neg c32] at H
                      have c32b0 : decide (t322 < (wrap64 (a1))) = false := decide_eq_false c32
                      clear c32
                      obtain rfl := Option.some.inj H
                      cases HRT.out
                  · rw [if_neg c31] at H
                    have c31b0 : decide (0 ≤ t322) = false := decide_eq_false c31
                    clear c31
                    obtain rfl := Option.some.inj H
                    cases HRT.out
                · replace c30 := Bool.eq_false_iff.mpr c30
                  subst c30
                  have H1 : (if t325 = true then (if t324 < (wrap64 (a2)) then ((op_Fits.f a0_0 a0_1 a0_2 a0_3 a0_4 a0_5 a0_6 a0_7 l0_8 (wrap64 ((wrap64 (a1)) + 1)) (wrap64 (a2))).bind fun t331 => (if t331 = 0 then ((op_Fits.f a0_0 a0_1 a0_2 a0_3 a0_4 a0_5 a0_6 a0_7 l0_8 (wrap64 (a1)) (wrap64 ((wrap64 (a2)) + 1))).bind fun t332 => (some (t332 == 0))) else (some false))) else (some false)) else ((op_Fits.f a0_0 a0_1 a0_2 a0_3 a0_4 a0_5 a0_6 a0_7 l0_8 (wrap64 ((wrap64 (a1)) + 1)) (wrap64 (a2))).bind fun t333 => (if t333 = 0 then ((op_Fits.f a0_0 a0_1 a0_2 a0_3 a0_4 a0_5 a0_6 a0_7 l0_8 (wrap64 (a1)) (wrap64 ((wrap64 (a2)) + 1))).bind fun t334 => (some (t334 == 0))) else (some false)))) = some r := by rw [if_neg (show ¬ (false = true) by decide)] at H; exact H
                  clear H
                  have H := H1
                  clear H1
                  by_cases c61 : t325 = true
                  · subst c61
                    have H1 : (if t324 < (wrap64 (a2)) then ((op_Fits.f a0_0 a0_1 a0_2 a0_3 a0_4 a0_5 a0_6 a0_7 l0_8 (wrap64 ((wrap64 (a1)) + 1)) (wrap64 (a2))).bind fun t331 => (if t331 = 0 then ((op_Fits.f a0_0 a0_1 a0_2 a0_3 a0_4 a0_5 a0_6 a0_7 l0_8 (wrap64 (a1)) (wrap64 ((wrap64 (a2)) + 1))).bind fun t332 => (some (t332 == 0))) else (some false))) else (some false)) = some r := by rw [if_pos rfl] at H; exact H
                    clear H
                    have H := H1
                    clear H1
                    by_cases c62 : t324 < (wrap64 (a2))
                    · rw [if_pos c62] at H
                      have c62b0 : decide (t324 < (wrap64 (a2))) = true := decide_eq_true c62
                      clear c62
                      replace H := Option.bind_eq_some_iff.mp H
                      obtain ⟨t331, A630, H⟩ := H
                      replace H : (if t331 = 0 then ((op_Fits.f a0_0 a0_1 a0_2 a0_3 a0_4 a0_5 a0_6 a0_7 l0_8 (wrap64 (a1)) (wrap64 ((wrap64 (a2)) + 1))).bind fun t332 => (some (t332 == 0))) else (some false)) = some r := H
                      have A63 := Aside0.mk A630
                      clear A630
                      by_cases c64 : t331 = 0
                      · rw [if_pos c64] at H
                        have c64b0 : (t331 == 0) = true := beq_iff_eq.mpr c64
                        have c64b1 : (t331 != 0) = false := bne_eq_false_iff_eq.mpr c64
                        clear c64
                        replace H := Option.bind_eq_some_iff.mp H
                        obtain ⟨t332, A650, H⟩ := H
                        replace H : (some (t332 == 0)) = some r := H
                        have A65 := Aside0.mk A650
                        clear A650
                        obtain rfl := Option.some.inj H
                        simp only [Option.some.injEq, Prod.mk.injEq] at H
                        obtain ⟨rfl⟩ := H
                        obtain ⟨Ao66, co66, eo66⟩ := Kd.R_slice HO_7.out
                        subst eo66
                        have hcz67_0 : wr.cell? ⟨gb313, 0, none⟩ = some (.int .i64 a0_0) := (blk_cell BK313.out 0).trans rfl
                        have hcz67_1 : wr.cell? ⟨gb313, 1, none⟩ = some (.int .i64 a0_1) := (blk_cell BK313.out 1).trans rfl
                        have hcz67_2 : wr.cell? ⟨gb313, 2, none⟩ = some (.int .i64 a0_2) := (blk_cell BK313.out 2).trans rfl
                        have hcz67_3 : wr.cell? ⟨gb313, 3, none⟩ = some (.int .i64 a0_3) := (blk_cell BK313.out 3).trans rfl
                        have hcz67_4 : wr.cell? ⟨gb313, 4, none⟩ = some (.int .i64 a0_4) := (blk_cell BK313.out 4).trans rfl
                        have hcz67_5 : wr.cell? ⟨gb313, 5, none⟩ = some (.string a0_5) := (blk_cell BK313.out 5).trans rfl
                        have hcz67_6 : wr.cell? ⟨gb313, 6, none⟩ = some (.string a0_6) := (blk_cell BK313.out 6).trans rfl
                        have hcz67_7 : wr.cell? ⟨gb313, 7, none⟩ = some (.string a0_7) := (blk_cell BK313.out 7).trans rfl
                        have hcz67_8 : wr.cell? ⟨gb313, 8, none⟩ = some (.slice A0_8 l0_8.length c0_8) := (blk_cell BK313.out 8).trans rfl
                        have hfz67_0 := blk_frozen BK313.out 0
                        have hfz67_1 := blk_frozen BK313.out 1
                        have hfz67_2 := blk_frozen BK313.out 2
                        have hfz67_3 := blk_frozen BK313.out 3
                        have hfz67_4 := blk_frozen BK313.out 4
                        have hfz67_5 := blk_frozen BK313.out 5
                        have hfz67_6 := blk_frozen BK313.out 6
                        have hfz67_7 := blk_frozen BK313.out 7
                        have hfz67_8 := blk_frozen BK313.out 8
                        go_wp2_with (first | ((with_reducible refine gate_callee (f := 14) rfl ?_); refine goesL_ (some 49) rfl rfl Tryd.func14 (by kernel_rfl) rfl #[.agg #[.int .i64 a0_0, .int .i64 a0_1, .int .i64 a0_2, .int .i64 a0_3, .int .i64 a0_4, .string a0_5, .string a0_6, .string a0_7, .slice A0_8 l0_8.length c0_8]] rfl (by (try simp only [List.map_toArray, List.map_cons, List.map_nil]); first | done | rfl | (simp only [List.length_drop, List.length_take]; rfl)) ?_; (with_reducible refine (op_Sets.calls k2 a0_0 a0_1 a0_2 a0_3 a0_4 a0_5 a0_6 a0_7 _ _ l0_8 t322 false _ ?side3 ?side1 ?side2 A26.out).mono ?_); (case side1 => repeat (first | exact (Kd.C_below HR0_8.out HB.out) | (with_reducible refine Kd.C_alloc ?_ _) | (with_reducible refine Kd.C_drewN ?_ _) | (with_reducible refine Kd.C_drew ?_))); (case side2 => exact HC0_8.out); (case side3 => repeat (first | exact (GW.below HG.out HB.out) | (with_reducible refine GW.alloc ?_ _) | (with_reducible refine GW.drewN ?_ _) | (with_reducible refine GW.drew ?_))); rintro e w68 ⟨rfl, hb⟩; refine ⟨_, rfl, ?_⟩; have n0_ := Aside0.mk (Kd.R_below (by (with_reducible repeat (first | apply Kd.R_alloc | apply Kd.R_drewN | apply Kd.R_drew)); exact HO_7.out) hb); have n1_ := Aside0.mk (blk_below (g := gb313) (o := .cells #[.int .i64 a0_0, .int .i64 a0_1, .int .i64 a0_2, .int .i64 a0_3, .int .i64 a0_4, .string a0_5, .string a0_6, .string a0_7, .slice A0_8 l0_8.length c0_8] 44 (0, 0)) (by (with_reducible repeat (first | refine blk_drewN ?_ _ | refine blk_drew ?_ | refine blk_alloc ?_ _)); exact BK313.out) hb); have n2_ := Aside0.mk (below_step (by repeat (first | (with_reducible first | exact HB.out | apply below_alloc | apply pw_below_drewN | apply below_drew1 | refine below_set ?_ GE313.out) | exact HB.out)) hb); clear HO_7; clear BK313; clear HB; have HO_7 := n0_; have BK313 := n1_; have HB := n2_; clear n0_ n1_ n2_; (try clear hb); (try clear hb2); (try clear hk); (try clear hi); have hcz69_0 : w68.cell? ⟨gb313, 0, none⟩ = some (.int .i64 a0_0) := (blk_cell BK313.out 0).trans rfl; have hcz69_1 : w68.cell? ⟨gb313, 1, none⟩ = some (.int .i64 a0_1) := (blk_cell BK313.out 1).trans rfl; have hcz69_2 : w68.cell? ⟨gb313, 2, none⟩ = some (.int .i64 a0_2) := (blk_cell BK313.out 2).trans rfl; have hcz69_3 : w68.cell? ⟨gb313, 3, none⟩ = some (.int .i64 a0_3) := (blk_cell BK313.out 3).trans rfl; have hcz69_4 : w68.cell? ⟨gb313, 4, none⟩ = some (.int .i64 a0_4) := (blk_cell BK313.out 4).trans rfl; have hcz69_5 : w68.cell? ⟨gb313, 5, none⟩ = some (.string a0_5) := (blk_cell BK313.out 5).trans rfl; have hcz69_6 : w68.cell? ⟨gb313, 6, none⟩ = some (.string a0_6) := (blk_cell BK313.out 6).trans rfl; have hcz69_7 : w68.cell? ⟨gb313, 7, none⟩ = some (.string a0_7) := (blk_cell BK313.out 7).trans rfl; have hcz69_8 : w68.cell? ⟨gb313, 8, none⟩ = some (.slice A0_8 l0_8.length c0_8) := (blk_cell BK313.out 8).trans rfl; have hfz69_0 := blk_frozen BK313.out 0; have hfz69_1 := blk_frozen BK313.out 1; have hfz69_2 := blk_frozen BK313.out 2; have hfz69_3 := blk_frozen BK313.out 3; have hfz69_4 := blk_frozen BK313.out 4; have hfz69_5 := blk_frozen BK313.out 5; have hfz69_6 := blk_frozen BK313.out 6; have hfz69_7 := blk_frozen BK313.out 7; have hfz69_8 := blk_frozen BK313.out 8) | ((with_reducible refine gate_callee (f := 26) rfl ?_); refine goesL_ (some 54) rfl rfl Tryd.func26 (by kernel_rfl) rfl #[.agg #[.int .i64 a0_0, .int .i64 a0_1, .int .i64 a0_2, .int .i64 a0_3, .int .i64 a0_4, .string a0_5, .string a0_6, .string a0_7, .slice A0_8 l0_8.length c0_8]] rfl (by (try simp only [List.map_toArray, List.map_cons, List.map_nil]); first | done | rfl | (simp only [List.length_drop, List.length_take]; rfl)) ?_; (with_reducible refine (op_Target.calls a0_0 a0_1 a0_2 a0_3 a0_4 a0_5 a0_6 a0_7 _ _ l0_8 t324 true _ ?side3 ?side1 ?side2 A27.out).mono ?_); (case side1 => repeat (first | exact (Kd.C_below HR0_8.out HB.out) | (with_reducible refine Kd.C_alloc ?_ _) | (with_reducible refine Kd.C_drewN ?_ _) | (with_reducible refine Kd.C_drew ?_))); (case side2 => exact HC0_8.out); (case side3 => repeat (first | exact (GW.below HG.out HB.out) | (with_reducible refine GW.alloc ?_ _) | (with_reducible refine GW.drewN ?_ _) | (with_reducible refine GW.drew ?_))); rintro e w70 ⟨rfl, hb⟩; refine ⟨_, rfl, ?_⟩; have n0_ := Aside0.mk (Kd.R_below (by (with_reducible repeat (first | apply Kd.R_alloc | apply Kd.R_drewN | apply Kd.R_drew)); exact HO_7.out) hb); have n1_ := Aside0.mk (blk_below (g := gb313) (o := .cells #[.int .i64 a0_0, .int .i64 a0_1, .int .i64 a0_2, .int .i64 a0_3, .int .i64 a0_4, .string a0_5, .string a0_6, .string a0_7, .slice A0_8 l0_8.length c0_8] 44 (0, 0)) (by (with_reducible repeat (first | refine blk_drewN ?_ _ | refine blk_drew ?_ | refine blk_alloc ?_ _)); exact BK313.out) hb); have n2_ := Aside0.mk (below_step (by repeat (first | (with_reducible first | exact HB.out | apply below_alloc | apply pw_below_drewN | apply below_drew1 | refine below_set ?_ GE313.out) | exact HB.out)) hb); clear HO_7; clear BK313; clear HB; have HO_7 := n0_; have BK313 := n1_; have HB := n2_; clear n0_ n1_ n2_; (try clear hb); (try clear hb2); (try clear hk); (try clear hi)) | ((with_reducible refine gate_callee (f := 16) rfl ?_); refine goesL_ (some 57) rfl rfl Tryd.func16 (by kernel_rfl) rfl #[] rfl (by (try simp only [List.map_toArray, List.map_cons, List.map_nil]); first | done | rfl | (simp only [List.length_drop, List.length_take]; rfl)) ?_; (with_reducible refine (secateurlaw07_live.calls k2  true _ ?side1 A28.out).mono ?_); (case side1 => repeat (first | exact (GW.below HG.out HB.out) | (with_reducible refine GW.alloc ?_ _) | (with_reducible refine GW.drewN ?_ _) | (with_reducible refine GW.drew ?_))); rintro e w71 ⟨rfl, hb⟩; refine ⟨_, rfl, ?_⟩; have n0_ := Aside0.mk (Kd.R_below (by (with_reducible repeat (first | apply Kd.R_alloc | apply Kd.R_drewN | apply Kd.R_drew)); exact HO_7.out) hb); have n1_ := Aside0.mk (blk_below (g := gb313) (o := .cells #[.int .i64 a0_0, .int .i64 a0_1, .int .i64 a0_2, .int .i64 a0_3, .int .i64 a0_4, .string a0_5, .string a0_6, .string a0_7, .slice A0_8 l0_8.length c0_8] 44 (0, 0)) (by (with_reducible repeat (first | refine blk_drewN ?_ _ | refine blk_drew ?_ | refine blk_alloc ?_ _)); exact BK313.out) hb); have n2_ := Aside0.mk (below_step (by repeat (first | (with_reducible first | exact HB.out | apply below_alloc | apply pw_below_drewN | apply below_drew1 | refine below_set ?_ GE313.out) | exact HB.out)) hb); clear HO_7; clear BK313; clear HB; have HO_7 := n0_; have BK313 := n1_; have HB := n2_; clear n0_ n1_ n2_; (try clear hb); (try clear hb2); (try clear hk); (try clear hi); have hcz72_0 : w71.cell? ⟨gb313, 0, none⟩ = some (.int .i64 a0_0) := (blk_cell BK313.out 0).trans rfl; have hcz72_1 : w71.cell? ⟨gb313, 1, none⟩ = some (.int .i64 a0_1) := (blk_cell BK313.out 1).trans rfl; have hcz72_2 : w71.cell? ⟨gb313, 2, none⟩ = some (.int .i64 a0_2) := (blk_cell BK313.out 2).trans rfl; have hcz72_3 : w71.cell? ⟨gb313, 3, none⟩ = some (.int .i64 a0_3) := (blk_cell BK313.out 3).trans rfl; have hcz72_4 : w71.cell? ⟨gb313, 4, none⟩ = some (.int .i64 a0_4) := (blk_cell BK313.out 4).trans rfl; have hcz72_5 : w71.cell? ⟨gb313, 5, none⟩ = some (.string a0_5) := (blk_cell BK313.out 5).trans rfl; have hcz72_6 : w71.cell? ⟨gb313, 6, none⟩ = some (.string a0_6) := (blk_cell BK313.out 6).trans rfl; have hcz72_7 : w71.cell? ⟨gb313, 7, none⟩ = some (.string a0_7) := (blk_cell BK313.out 7).trans rfl; have hcz72_8 : w71.cell? ⟨gb313, 8, none⟩ = some (.slice A0_8 l0_8.length c0_8) := (blk_cell BK313.out 8).trans rfl; have hfz72_0 := blk_frozen BK313.out 0; have hfz72_1 := blk_frozen BK313.out 1; have hfz72_2 := blk_frozen BK313.out 2; have hfz72_3 := blk_frozen BK313.out 3; have hfz72_4 := blk_frozen BK313.out 4; have hfz72_5 := blk_frozen BK313.out 5; have hfz72_6 := blk_frozen BK313.out 6; have hfz72_7 := blk_frozen BK313.out 7; have hfz72_8 := blk_frozen BK313.out 8) | (go_at_call 23; (with_reducible refine (op_Fits.calls a0_0 a0_1 a0_2 a0_3 a0_4 a0_5 a0_6 a0_7 _ _ l0_8 (wrap64 ((wrap64 (a1)) + 1)) (wrap64 (a2)) t331 _ ?side3 ?side1 ?side2 A63.out).mono ?_); (case side1 => repeat (first | exact (Kd.C_below HR0_8.out HB.out) | (with_reducible refine Kd.C_alloc ?_ _) | (with_reducible refine Kd.C_drewN ?_ _) | (with_reducible refine Kd.C_drew ?_))); (case side2 => exact HC0_8.out); (case side3 => repeat (first | exact (GW.below HG.out HB.out) | (with_reducible refine GW.alloc ?_ _) | (with_reducible refine GW.drewN ?_ _) | (with_reducible refine GW.drew ?_))); rintro e w73 ⟨rfl, hb⟩; have n0_ := Aside0.mk (Kd.R_below (by (with_reducible repeat (first | apply Kd.R_alloc | apply Kd.R_drewN | apply Kd.R_drew)); exact HO_7.out) hb); have n1_ := Aside0.mk (blk_below (g := gb313) (o := .cells #[.int .i64 a0_0, .int .i64 a0_1, .int .i64 a0_2, .int .i64 a0_3, .int .i64 a0_4, .string a0_5, .string a0_6, .string a0_7, .slice A0_8 l0_8.length c0_8] 44 (0, 0)) (by (with_reducible repeat (first | refine blk_drewN ?_ _ | refine blk_drew ?_ | refine blk_alloc ?_ _)); exact BK313.out) hb); have n2_ := Aside0.mk (below_step (by repeat (first | (with_reducible first | exact HB.out | apply below_alloc | apply pw_below_drewN | apply below_drew1 | refine below_set ?_ GE313.out) | exact HB.out)) hb); clear HO_7; clear BK313; clear HB; have HO_7 := n0_; have BK313 := n1_; have HB := n2_; clear n0_ n1_ n2_; (try clear hb); (try clear hb2); (try clear hk); (try clear hi); have hcz74_0 : w73.cell? ⟨gb313, 0, none⟩ = some (.int .i64 a0_0) := (blk_cell BK313.out 0).trans rfl; have hcz74_1 : w73.cell? ⟨gb313, 1, none⟩ = some (.int .i64 a0_1) := (blk_cell BK313.out 1).trans rfl; have hcz74_2 : w73.cell? ⟨gb313, 2, none⟩ = some (.int .i64 a0_2) := (blk_cell BK313.out 2).trans rfl; have hcz74_3 : w73.cell? ⟨gb313, 3, none⟩ = some (.int .i64 a0_3) := (blk_cell BK313.out 3).trans rfl; have hcz74_4 : w73.cell? ⟨gb313, 4, none⟩ = some (.int .i64 a0_4) := (blk_cell BK313.out 4).trans rfl; have hcz74_5 : w73.cell? ⟨gb313, 5, none⟩ = some (.string a0_5) := (blk_cell BK313.out 5).trans rfl; have hcz74_6 : w73.cell? ⟨gb313, 6, none⟩ = some (.string a0_6) := (blk_cell BK313.out 6).trans rfl; have hcz74_7 : w73.cell? ⟨gb313, 7, none⟩ = some (.string a0_7) := (blk_cell BK313.out 7).trans rfl; have hcz74_8 : w73.cell? ⟨gb313, 8, none⟩ = some (.slice A0_8 l0_8.length c0_8) := (blk_cell BK313.out 8).trans rfl; have hfz74_0 := blk_frozen BK313.out 0; have hfz74_1 := blk_frozen BK313.out 1; have hfz74_2 := blk_frozen BK313.out 2; have hfz74_3 := blk_frozen BK313.out 3; have hfz74_4 := blk_frozen BK313.out 4; have hfz74_5 := blk_frozen BK313.out 5; have hfz74_6 := blk_frozen BK313.out 6; have hfz74_7 := blk_frozen BK313.out 7; have hfz74_8 := blk_frozen BK313.out 8) | (go_at_call 23; (with_reducible refine (op_Fits.calls a0_0 a0_1 a0_2 a0_3 a0_4 a0_5 a0_6 a0_7 _ _ l0_8 (wrap64 (a1)) (wrap64 ((wrap64 (a2)) + 1)) t332 _ ?side3 ?side1 ?side2 A65.out).mono ?_); (case side1 => repeat (first | exact (Kd.C_below HR0_8.out HB.out) | (with_reducible refine Kd.C_alloc ?_ _) | (with_reducible refine Kd.C_drewN ?_ _) | (with_reducible refine Kd.C_drew ?_))); (case side2 => exact HC0_8.out); (case side3 => repeat (first | exact (GW.below HG.out HB.out) | (with_reducible refine GW.alloc ?_ _) | (with_reducible refine GW.drewN ?_ _) | (with_reducible refine GW.drew ?_))); rintro e w75 ⟨rfl, hb⟩; have n0_ := Aside0.mk (Kd.R_below (by (with_reducible repeat (first | apply Kd.R_alloc | apply Kd.R_drewN | apply Kd.R_drew)); exact HO_7.out) hb); have n1_ := Aside0.mk (blk_below (g := gb313) (o := .cells #[.int .i64 a0_0, .int .i64 a0_1, .int .i64 a0_2, .int .i64 a0_3, .int .i64 a0_4, .string a0_5, .string a0_6, .string a0_7, .slice A0_8 l0_8.length c0_8] 44 (0, 0)) (by (with_reducible repeat (first | refine blk_drewN ?_ _ | refine blk_drew ?_ | refine blk_alloc ?_ _)); exact BK313.out) hb); have n2_ := Aside0.mk (below_step (by repeat (first | (with_reducible first | exact HB.out | apply below_alloc | apply pw_below_drewN | apply below_drew1 | refine below_set ?_ GE313.out) | exact HB.out)) hb); clear HO_7; clear BK313; clear HB; have HO_7 := n0_; have BK313 := n1_; have HB := n2_; clear n0_ n1_ n2_; (try clear hb); (try clear hb2); (try clear hk); (try clear hi)))
                        go_ret
                        exact ⟨by first | rfl | (simp [errW_none, errW_some] <;> rfl) | (simp [*, errW_none, errW_some] <;> rfl), by repeat (first | (with_reducible first | exact HB.out | apply below_alloc | apply pw_below_drewN | apply below_drew1 | refine below_set ?_ GE313.out) | exact HB.out)⟩
                      · rw [if_neg c64] at H
                        have c64b0 : (t331 == 0) = false := beq_eq_false_iff_ne.mpr c64
                        have c64b1 : (t331 != 0) = true := bne_iff_ne.mpr c64
                        obtain rfl := Option.some.inj H
                        cases HRT.out
                    · rw [if_neg c62] at H
                      have c62b0 : decide (t324 < (wrap64 (a2))) = false := decide_eq_false c62
                      clear c62
                      obtain rfl := Option.some.inj H
                      cases HRT.out
                  · replace c61 := Bool.eq_false_iff.mpr c61
                    subst c61
                    have H1 : ((op_Fits.f a0_0 a0_1 a0_2 a0_3 a0_4 a0_5 a0_6 a0_7 l0_8 (wrap64 ((wrap64 (a1)) + 1)) (wrap64 (a2))).bind fun t333 => (if t333 = 0 then ((op_Fits.f a0_0 a0_1 a0_2 a0_3 a0_4 a0_5 a0_6 a0_7 l0_8 (wrap64 (a1)) (wrap64 ((wrap64 (a2)) + 1))).bind fun t334 => (some (t334 == 0))) else (some false))) = some r := by rw [if_neg (show ¬ (false = true) by decide)] at H; exact H
                    clear H
                    have H := H1
                    clear H1
                    replace H := Option.bind_eq_some_iff.mp H
                    obtain ⟨t333, A760, H⟩ := H
                    replace H : (if t333 = 0 then ((op_Fits.f a0_0 a0_1 a0_2 a0_3 a0_4 a0_5 a0_6 a0_7 l0_8 (wrap64 (a1)) (wrap64 ((wrap64 (a2)) + 1))).bind fun t334 => (some (t334 == 0))) else (some false)) = some r := H
                    have A76 := Aside0.mk A760
                    clear A760
                    by_cases c77 : t333 = 0
                    · rw [if_pos c77] at H
                      have c77b0 : (t333 == 0) = true := beq_iff_eq.mpr c77
                      have c77b1 : (t333 != 0) = false := bne_eq_false_iff_eq.mpr c77
                      clear c77
                      replace H := Option.bind_eq_some_iff.mp H
                      obtain ⟨t334, A780, H⟩ := H
                      replace H : (some (t334 == 0)) = some r := H
                      have A78 := Aside0.mk A780
                      clear A780
                      obtain rfl := Option.some.inj H
                      simp only [Option.some.injEq, Prod.mk.injEq] at H
                      obtain ⟨rfl⟩ := H
                      obtain ⟨Ao79, co79, eo79⟩ := Kd.R_slice HO_7.out
                      subst eo79
                      have hcz80_0 : wr.cell? ⟨gb313, 0, none⟩ = some (.int .i64 a0_0) := (blk_cell BK313.out 0).trans rfl
                      have hcz80_1 : wr.cell? ⟨gb313, 1, none⟩ = some (.int .i64 a0_1) := (blk_cell BK313.out 1).trans rfl
                      have hcz80_2 : wr.cell? ⟨gb313, 2, none⟩ = some (.int .i64 a0_2) := (blk_cell BK313.out 2).trans rfl
                      have hcz80_3 : wr.cell? ⟨gb313, 3, none⟩ = some (.int .i64 a0_3) := (blk_cell BK313.out 3).trans rfl
                      have hcz80_4 : wr.cell? ⟨gb313, 4, none⟩ = some (.int .i64 a0_4) := (blk_cell BK313.out 4).trans rfl
                      have hcz80_5 : wr.cell? ⟨gb313, 5, none⟩ = some (.string a0_5) := (blk_cell BK313.out 5).trans rfl
                      have hcz80_6 : wr.cell? ⟨gb313, 6, none⟩ = some (.string a0_6) := (blk_cell BK313.out 6).trans rfl
                      have hcz80_7 : wr.cell? ⟨gb313, 7, none⟩ = some (.string a0_7) := (blk_cell BK313.out 7).trans rfl
                      have hcz80_8 : wr.cell? ⟨gb313, 8, none⟩ = some (.slice A0_8 l0_8.length c0_8) := (blk_cell BK313.out 8).trans rfl
                      have hfz80_0 := blk_frozen BK313.out 0
                      have hfz80_1 := blk_frozen BK313.out 1
                      have hfz80_2 := blk_frozen BK313.out 2
                      have hfz80_3 := blk_frozen BK313.out 3
                      have hfz80_4 := blk_frozen BK313.out 4
                      have hfz80_5 := blk_frozen BK313.out 5
                      have hfz80_6 := blk_frozen BK313.out 6
                      have hfz80_7 := blk_frozen BK313.out 7
                      have hfz80_8 := blk_frozen BK313.out 8
                      go_wp2_with (first | ((with_reducible refine gate_callee (f := 14) rfl ?_); refine goesL_ (some 49) rfl rfl Tryd.func14 (by kernel_rfl) rfl #[.agg #[.int .i64 a0_0, .int .i64 a0_1, .int .i64 a0_2, .int .i64 a0_3, .int .i64 a0_4, .string a0_5, .string a0_6, .string a0_7, .slice A0_8 l0_8.length c0_8]] rfl (by (try simp only [List.map_toArray, List.map_cons, List.map_nil]); first | done | rfl | (simp only [List.length_drop, List.length_take]; rfl)) ?_; (with_reducible refine (op_Sets.calls k2 a0_0 a0_1 a0_2 a0_3 a0_4 a0_5 a0_6 a0_7 _ _ l0_8 t322 false _ ?side3 ?side1 ?side2 A26.out).mono ?_); (case side1 => repeat (first | exact (Kd.C_below HR0_8.out HB.out) | (with_reducible refine Kd.C_alloc ?_ _) | (with_reducible refine Kd.C_drewN ?_ _) | (with_reducible refine Kd.C_drew ?_))); (case side2 => exact HC0_8.out); (case side3 => repeat (first | exact (GW.below HG.out HB.out) | (with_reducible refine GW.alloc ?_ _) | (with_reducible refine GW.drewN ?_ _) | (with_reducible refine GW.drew ?_))); rintro e w81 ⟨rfl, hb⟩; refine ⟨_, rfl, ?_⟩; have n0_ := Aside0.mk (Kd.R_below (by (with_reducible repeat (first | apply Kd.R_alloc | apply Kd.R_drewN | apply Kd.R_drew)); exact HO_7.out) hb); have n1_ := Aside0.mk (blk_below (g := gb313) (o := .cells #[.int .i64 a0_0, .int .i64 a0_1, .int .i64 a0_2, .int .i64 a0_3, .int .i64 a0_4, .string a0_5, .string a0_6, .string a0_7, .slice A0_8 l0_8.length c0_8] 44 (0, 0)) (by (with_reducible repeat (first | refine blk_drewN ?_ _ | refine blk_drew ?_ | refine blk_alloc ?_ _)); exact BK313.out) hb); have n2_ := Aside0.mk (below_step (by repeat (first | (with_reducible first | exact HB.out | apply below_alloc | apply pw_below_drewN | apply below_drew1 | refine below_set ?_ GE313.out) | exact HB.out)) hb); clear HO_7; clear BK313; clear HB; have HO_7 := n0_; have BK313 := n1_; have HB := n2_; clear n0_ n1_ n2_; (try clear hb); (try clear hb2); (try clear hk); (try clear hi); have hcz82_0 : w81.cell? ⟨gb313, 0, none⟩ = some (.int .i64 a0_0) := (blk_cell BK313.out 0).trans rfl; have hcz82_1 : w81.cell? ⟨gb313, 1, none⟩ = some (.int .i64 a0_1) := (blk_cell BK313.out 1).trans rfl; have hcz82_2 : w81.cell? ⟨gb313, 2, none⟩ = some (.int .i64 a0_2) := (blk_cell BK313.out 2).trans rfl; have hcz82_3 : w81.cell? ⟨gb313, 3, none⟩ = some (.int .i64 a0_3) := (blk_cell BK313.out 3).trans rfl; have hcz82_4 : w81.cell? ⟨gb313, 4, none⟩ = some (.int .i64 a0_4) := (blk_cell BK313.out 4).trans rfl; have hcz82_5 : w81.cell? ⟨gb313, 5, none⟩ = some (.string a0_5) := (blk_cell BK313.out 5).trans rfl; have hcz82_6 : w81.cell? ⟨gb313, 6, none⟩ = some (.string a0_6) := (blk_cell BK313.out 6).trans rfl; have hcz82_7 : w81.cell? ⟨gb313, 7, none⟩ = some (.string a0_7) := (blk_cell BK313.out 7).trans rfl; have hcz82_8 : w81.cell? ⟨gb313, 8, none⟩ = some (.slice A0_8 l0_8.length c0_8) := (blk_cell BK313.out 8).trans rfl; have hfz82_0 := blk_frozen BK313.out 0; have hfz82_1 := blk_frozen BK313.out 1; have hfz82_2 := blk_frozen BK313.out 2; have hfz82_3 := blk_frozen BK313.out 3; have hfz82_4 := blk_frozen BK313.out 4; have hfz82_5 := blk_frozen BK313.out 5; have hfz82_6 := blk_frozen BK313.out 6; have hfz82_7 := blk_frozen BK313.out 7; have hfz82_8 := blk_frozen BK313.out 8) | ((with_reducible refine gate_callee (f := 26) rfl ?_); refine goesL_ (some 54) rfl rfl Tryd.func26 (by kernel_rfl) rfl #[.agg #[.int .i64 a0_0, .int .i64 a0_1, .int .i64 a0_2, .int .i64 a0_3, .int .i64 a0_4, .string a0_5, .string a0_6, .string a0_7, .slice A0_8 l0_8.length c0_8]] rfl (by (try simp only [List.map_toArray, List.map_cons, List.map_nil]); first | done | rfl | (simp only [List.length_drop, List.length_take]; rfl)) ?_; (with_reducible refine (op_Target.calls a0_0 a0_1 a0_2 a0_3 a0_4 a0_5 a0_6 a0_7 _ _ l0_8 t324 false _ ?side3 ?side1 ?side2 A27.out).mono ?_); (case side1 => repeat (first | exact (Kd.C_below HR0_8.out HB.out) | (with_reducible refine Kd.C_alloc ?_ _) | (with_reducible refine Kd.C_drewN ?_ _) | (with_reducible refine Kd.C_drew ?_))); (case side2 => exact HC0_8.out); (case side3 => repeat (first | exact (GW.below HG.out HB.out) | (with_reducible refine GW.alloc ?_ _) | (with_reducible refine GW.drewN ?_ _) | (with_reducible refine GW.drew ?_))); rintro e w83 ⟨rfl, hb⟩; refine ⟨_, rfl, ?_⟩; have n0_ := Aside0.mk (Kd.R_below (by (with_reducible repeat (first | apply Kd.R_alloc | apply Kd.R_drewN | apply Kd.R_drew)); exact HO_7.out) hb); have n1_ := Aside0.mk (blk_below (g := gb313) (o := .cells #[.int .i64 a0_0, .int .i64 a0_1, .int .i64 a0_2, .int .i64 a0_3, .int .i64 a0_4, .string a0_5, .string a0_6, .string a0_7, .slice A0_8 l0_8.length c0_8] 44 (0, 0)) (by (with_reducible repeat (first | refine blk_drewN ?_ _ | refine blk_drew ?_ | refine blk_alloc ?_ _)); exact BK313.out) hb); have n2_ := Aside0.mk (below_step (by repeat (first | (with_reducible first | exact HB.out | apply below_alloc | apply pw_below_drewN | apply below_drew1 | refine below_set ?_ GE313.out) | exact HB.out)) hb); clear HO_7; clear BK313; clear HB; have HO_7 := n0_; have BK313 := n1_; have HB := n2_; clear n0_ n1_ n2_; (try clear hb); (try clear hb2); (try clear hk); (try clear hi)) | ((with_reducible refine gate_callee (f := 16) rfl ?_); refine goesL_ (some 57) rfl rfl Tryd.func16 (by kernel_rfl) rfl #[] rfl (by (try simp only [List.map_toArray, List.map_cons, List.map_nil]); first | done | rfl | (simp only [List.length_drop, List.length_take]; rfl)) ?_; (with_reducible refine (secateurlaw07_live.calls k2  true _ ?side1 A28.out).mono ?_); (case side1 => repeat (first | exact (GW.below HG.out HB.out) | (with_reducible refine GW.alloc ?_ _) | (with_reducible refine GW.drewN ?_ _) | (with_reducible refine GW.drew ?_))); rintro e w84 ⟨rfl, hb⟩; refine ⟨_, rfl, ?_⟩; have n0_ := Aside0.mk (Kd.R_below (by (with_reducible repeat (first | apply Kd.R_alloc | apply Kd.R_drewN | apply Kd.R_drew)); exact HO_7.out) hb); have n1_ := Aside0.mk (blk_below (g := gb313) (o := .cells #[.int .i64 a0_0, .int .i64 a0_1, .int .i64 a0_2, .int .i64 a0_3, .int .i64 a0_4, .string a0_5, .string a0_6, .string a0_7, .slice A0_8 l0_8.length c0_8] 44 (0, 0)) (by (with_reducible repeat (first | refine blk_drewN ?_ _ | refine blk_drew ?_ | refine blk_alloc ?_ _)); exact BK313.out) hb); have n2_ := Aside0.mk (below_step (by repeat (first | (with_reducible first | exact HB.out | apply below_alloc | apply pw_below_drewN | apply below_drew1 | refine below_set ?_ GE313.out) | exact HB.out)) hb); clear HO_7; clear BK313; clear HB; have HO_7 := n0_; have BK313 := n1_; have HB := n2_; clear n0_ n1_ n2_; (try clear hb); (try clear hb2); (try clear hk); (try clear hi); have hcz85_0 : w84.cell? ⟨gb313, 0, none⟩ = some (.int .i64 a0_0) := (blk_cell BK313.out 0).trans rfl; have hcz85_1 : w84.cell? ⟨gb313, 1, none⟩ = some (.int .i64 a0_1) := (blk_cell BK313.out 1).trans rfl; have hcz85_2 : w84.cell? ⟨gb313, 2, none⟩ = some (.int .i64 a0_2) := (blk_cell BK313.out 2).trans rfl; have hcz85_3 : w84.cell? ⟨gb313, 3, none⟩ = some (.int .i64 a0_3) := (blk_cell BK313.out 3).trans rfl; have hcz85_4 : w84.cell? ⟨gb313, 4, none⟩ = some (.int .i64 a0_4) := (blk_cell BK313.out 4).trans rfl; have hcz85_5 : w84.cell? ⟨gb313, 5, none⟩ = some (.string a0_5) := (blk_cell BK313.out 5).trans rfl; have hcz85_6 : w84.cell? ⟨gb313, 6, none⟩ = some (.string a0_6) := (blk_cell BK313.out 6).trans rfl; have hcz85_7 : w84.cell? ⟨gb313, 7, none⟩ = some (.string a0_7) := (blk_cell BK313.out 7).trans rfl; have hcz85_8 : w84.cell? ⟨gb313, 8, none⟩ = some (.slice A0_8 l0_8.length c0_8) := (blk_cell BK313.out 8).trans rfl; have hfz85_0 := blk_frozen BK313.out 0; have hfz85_1 := blk_frozen BK313.out 1; have hfz85_2 := blk_frozen BK313.out 2; have hfz85_3 := blk_frozen BK313.out 3; have hfz85_4 := blk_frozen BK313.out 4; have hfz85_5 := blk_frozen BK313.out 5; have hfz85_6 := blk_frozen BK313.out 6; have hfz85_7 := blk_frozen BK313.out 7; have hfz85_8 := blk_frozen BK313.out 8) | (go_at_call 23; (with_reducible refine (op_Fits.calls a0_0 a0_1 a0_2 a0_3 a0_4 a0_5 a0_6 a0_7 _ _ l0_8 (wrap64 ((wrap64 (a1)) + 1)) (wrap64 (a2)) t333 _ ?side3 ?side1 ?side2 A76.out).mono ?_); (case side1 => repeat (first | exact (Kd.C_below HR0_8.out HB.out) | (with_reducible refine Kd.C_alloc ?_ _) | (with_reducible refine Kd.C_drewN ?_ _) | (with_reducible refine Kd.C_drew ?_))); (case side2 => exact HC0_8.out); (case side3 => repeat (first | exact (GW.below HG.out HB.out) | (with_reducible refine GW.alloc ?_ _) | (with_reducible refine GW.drewN ?_ _) | (with_reducible refine GW.drew ?_))); rintro e w86 ⟨rfl, hb⟩; have n0_ := Aside0.mk (Kd.R_below (by (with_reducible repeat (first | apply Kd.R_alloc | apply Kd.R_drewN | apply Kd.R_drew)); exact HO_7.out) hb); have n1_ := Aside0.mk (blk_below (g := gb313) (o := .cells #[.int .i64 a0_0, .int .i64 a0_1, .int .i64 a0_2, .int .i64 a0_3, .int .i64 a0_4, .string a0_5, .string a0_6, .string a0_7, .slice A0_8 l0_8.length c0_8] 44 (0, 0)) (by (with_reducible repeat (first | refine blk_drewN ?_ _ | refine blk_drew ?_ | refine blk_alloc ?_ _)); exact BK313.out) hb); have n2_ := Aside0.mk (below_step (by repeat (first | (with_reducible first | exact HB.out | apply below_alloc | apply pw_below_drewN | apply below_drew1 | refine below_set ?_ GE313.out) | exact HB.out)) hb); clear HO_7; clear BK313; clear HB; have HO_7 := n0_; have BK313 := n1_; have HB := n2_; clear n0_ n1_ n2_; (try clear hb); (try clear hb2); (try clear hk); (try clear hi); have hcz87_0 : w86.cell? ⟨gb313, 0, none⟩ = some (.int .i64 a0_0) := (blk_cell BK313.out 0).trans rfl; have hcz87_1 : w86.cell? ⟨gb313, 1, none⟩ = some (.int .i64 a0_1) := (blk_cell BK313.out 1).trans rfl; have hcz87_2 : w86.cell? ⟨gb313, 2, none⟩ = some (.int .i64 a0_2) := (blk_cell BK313.out 2).trans rfl; have hcz87_3 : w86.cell? ⟨gb313, 3, none⟩ = some (.int .i64 a0_3) := (blk_cell BK313.out 3).trans rfl; have hcz87_4 : w86.cell? ⟨gb313, 4, none⟩ = some (.int .i64 a0_4) := (blk_cell BK313.out 4).trans rfl; have hcz87_5 : w86.cell? ⟨gb313, 5, none⟩ = some (.string a0_5) := (blk_cell BK313.out 5).trans rfl; have hcz87_6 : w86.cell? ⟨gb313, 6, none⟩ = some (.string a0_6) := (blk_cell BK313.out 6).trans rfl; have hcz87_7 : w86.cell? ⟨gb313, 7, none⟩ = some (.string a0_7) := (blk_cell BK313.out 7).trans rfl; have hcz87_8 : w86.cell? ⟨gb313, 8, none⟩ = some (.slice A0_8 l0_8.length c0_8) := (blk_cell BK313.out 8).trans rfl; have hfz87_0 := blk_frozen BK313.out 0; have hfz87_1 := blk_frozen BK313.out 1; have hfz87_2 := blk_frozen BK313.out 2; have hfz87_3 := blk_frozen BK313.out 3; have hfz87_4 := blk_frozen BK313.out 4; have hfz87_5 := blk_frozen BK313.out 5; have hfz87_6 := blk_frozen BK313.out 6; have hfz87_7 := blk_frozen BK313.out 7; have hfz87_8 := blk_frozen BK313.out 8) | (go_at_call 23; (with_reducible refine (op_Fits.calls a0_0 a0_1 a0_2 a0_3 a0_4 a0_5 a0_6 a0_7 _ _ l0_8 (wrap64 (a1)) (wrap64 ((wrap64 (a2)) + 1)) t334 _ ?side3 ?side1 ?side2 A78.out).mono ?_); (case side1 => repeat (first | exact (Kd.C_below HR0_8.out HB.out) | (with_reducible refine Kd.C_alloc ?_ _) | (with_reducible refine Kd.C_drewN ?_ _) | (with_reducible refine Kd.C_drew ?_))); (case side2 => exact HC0_8.out); (case side3 => repeat (first | exact (GW.below HG.out HB.out) | (with_reducible refine GW.alloc ?_ _) | (with_reducible refine GW.drewN ?_ _) | (with_reducible refine GW.drew ?_))); rintro e w88 ⟨rfl, hb⟩; have n0_ := Aside0.mk (Kd.R_below (by (with_reducible repeat (first | apply Kd.R_alloc | apply Kd.R_drewN | apply Kd.R_drew)); exact HO_7.out) hb); have n1_ := Aside0.mk (blk_below (g := gb313) (o := .cells #[.int .i64 a0_0, .int .i64 a0_1, .int .i64 a0_2, .int .i64 a0_3, .int .i64 a0_4, .string a0_5, .string a0_6, .string a0_7, .slice A0_8 l0_8.length c0_8] 44 (0, 0)) (by (with_reducible repeat (first | refine blk_drewN ?_ _ | refine blk_drew ?_ | refine blk_alloc ?_ _)); exact BK313.out) hb); have n2_ := Aside0.mk (below_step (by repeat (first | (with_reducible first | exact HB.out | apply below_alloc | apply pw_below_drewN | apply below_drew1 | refine below_set ?_ GE313.out) | exact HB.out)) hb); clear HO_7; clear BK313; clear HB; have HO_7 := n0_; have BK313 := n1_; have HB := n2_; clear n0_ n1_ n2_; (try clear hb); (try clear hb2); (try clear hk); (try clear hi)))
                      go_ret
                      exact ⟨by first | rfl | (simp [errW_none, errW_some] <;> rfl) | (simp [*, errW_none, errW_some] <;> rfl), by repeat (first | (with_reducible first | exact HB.out | apply below_alloc | apply pw_below_drewN | apply below_drew1 | refine below_set ?_ GE313.out) | exact HB.out)⟩
                    · rw [if_neg c77] at H
                      have c77b0 : (t333 == 0) = false := beq_eq_false_iff_ne.mpr c77
                      have c77b1 : (t333 != 0) = true := bne_iff_ne.mpr c77
                      obtain rfl := Option.some.inj H
                      cases HRT.out
              · replace c29 := Bool.eq_false_iff.mpr c29
                subst c29
                have H1 : (some false) = some r := by rw [if_neg (show ¬ (false = true) by decide)] at H; exact H
                clear H
                have H := H1
                clear H1
                obtain rfl := Option.some.inj H
                cases HRT.out

def secateurlaw07_OpWithin.f (k : Nat) (a0_0 : Int) (a0_1 : Int) (a0_2 : Int) (a0_3 : Int) (a0_4 : Int) (a0_5 : ByteArray) (a0_6 : ByteArray) (a0_7 : ByteArray) (l0_8 : List Int) (a1 : Int) (a2 : Int) : Option (Bool) := (secateurlaw07_OpWithin.g k a0_0 a0_1 a0_2 a0_3 a0_4 a0_5 a0_6 a0_7 l0_8 a1 a2).bind fun r_ => if r_ = true then some true else none
theorem secateurlaw07_OpWithin.mono : ∀ a0 a1 a2 a3 a4 a5 a6 a7 a8 a9 a10 k, LeO (secateurlaw07_OpWithin.f k a0 a1 a2 a3 a4 a5 a6 a7 a8 a9 a10) (secateurlaw07_OpWithin.f (k + 1) a0 a1 a2 a3 a4 a5 a6 a7 a8 a9 a10) := by
  intro a0 a1 a2 a3 a4 a5 a6 a7 a8 a9 a10 k
  unfold secateurlaw07_OpWithin.f
  exact LeO.bind (secateurlaw07_OpWithin.gmono a0 a1 a2 a3 a4 a5 a6 a7 a8 a9 a10 k) (fun _ => LeO.refl _)
theorem secateurlaw07_OpWithin.calls (k : Nat) (a0_0 : Int) (a0_1 : Int) (a0_2 : Int) (a0_3 : Int) (a0_4 : Int) (a0_5 : ByteArray) (a0_6 : ByteArray) (a0_7 : ByteArray) (A0_8 : Option Addr) (c0_8 : Nat) (l0_8 : List Int) (a1 : Int) (a2 : Int) (r : Bool) (w : World) (hG : GW w) (hr0_8 : Kd.C (Kd.int .i64) w A0_8 l0_8.length l0_8) (hc0_8 : l0_8.length ≤ c0_8) (h : secateurlaw07_OpWithin.f k a0_0 a0_1 a0_2 a0_3 a0_4 a0_5 a0_6 a0_7 l0_8 a1 a2 = some r) :
    Calls Tryd.prog 7 #[.agg #[.int .i64 a0_0, .int .i64 a0_1, .int .i64 a0_2, .int .i64 a0_3, .int .i64 a0_4, .string a0_5, .string a0_6, .string a0_7, .slice A0_8 l0_8.length c0_8], .int .u8 a1, .int .u8 a2] w fun e w' => e = .returned (.bool r) ∧ Below w.heap.size w w' := by
  obtain ⟨r_, h1, h2⟩ := Option.bind_eq_some_iff.mp h
  split at h2
  · rename_i hr_
    obtain rfl := Option.some.inj h2
    subst hr_
    exact secateurlaw07_OpWithin.gcalls k a0_0 a0_1 a0_2 a0_3 a0_4 a0_5 a0_6 a0_7 A0_8 c0_8 l0_8 a1 a2 _ w hG hr0_8 hc0_8 h1 rfl
  · cases h2
end Go.Proofs.YtmamaijiphdggaaDoor.POp
