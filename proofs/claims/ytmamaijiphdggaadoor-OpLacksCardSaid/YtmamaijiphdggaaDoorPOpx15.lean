/- Part of a proof of this seat's statements: plain functions, contracts and rows, written by a program (the kit's printer, some functions given by hand) out of the translation; no conditions of its own. -/
import Derived.Test.YtmamaijiphdggaaDoorPOpx0
import Derived.Test.YtmamaijiphdggaaDoorPOpx1
import Derived.Test.YtmamaijiphdggaaDoorPOpx2
import Derived.Test.YtmamaijiphdggaaDoorPOpx3
import Derived.Test.YtmamaijiphdggaaDoorPOpx5
namespace Go.Proofs.YtmamaijiphdggaaDoor.POp
open Go.RowKit Go.Proofs.YtmamaijiphdggaaDoor.Given Go.Proofs.YtmamaijiphdggaaDoorW.PrintWords Go.Proofs.YtmamaijiphdggaaDoorW.PrintLast Go.Proofs.YtmamaijiphdggaaDoorW.PrintMore
attribute [local go_sem] max2_int min2_int max_two min_two max_three min_three max_four min_four   -- for this text's walks alone
set_option linter.unusedVariables false
set_option linter.unusedSimpArgs false

/-! ### secateurlaw07_OpLacks: function 8 -/
mutual
def secateurlaw07_OpLacks.j0 : Nat → Int → Bool → Int → Int → Int → Int → Int → ByteArray → ByteArray → ByteArray → List Int → Option (Bool)
  | 0, _, _, _, _, _, _, _, _, _, _, _ => none
  | k + 1, x1, x14, x336000, x336001, x336002, x336003, x336004, x336005, x336006, x336007, x336008 => if x14 = true then ((secateurlaw07_live.f k).bind fun t338 => (some t338)) else (if 0 ≤ (Int.tmod (wrap64 (x1)) 7) then (if (Int.tmod (wrap64 (x1)) 7) < 7 then ((op_Shape.f x336000).bind fun t339 => ((secateurref07_Has.f t339 (bt (⟨#[97, 98, 99, 67, 70, 77, 118]⟩ : ByteArray) (Int.tmod (wrap64 (x1)) 7))).bind fun t340 => (if t340 = true then (secateurlaw07_OpLacks.j1 k (bt (⟨#[97, 98, 99, 67, 70, 77, 118]⟩ : ByteArray) (Int.tmod (wrap64 (x1)) 7)) true x336000 x336001 x336002 x336003 x336004 x336005 x336006 x336007 x336008) else (if (bt (⟨#[97, 98, 99, 67, 70, 77, 118]⟩ : ByteArray) (Int.tmod (wrap64 (x1)) 7)) = 67 then ((secateurref07_Has.f t339 70).bind fun t341 => (if t341 = true then (secateurlaw07_OpLacks.j1 k (bt (⟨#[97, 98, 99, 67, 70, 77, 118]⟩ : ByteArray) (Int.tmod (wrap64 (x1)) 7)) true x336000 x336001 x336002 x336003 x336004 x336005 x336006 x336007 x336008) else ((secateurref07_Has.f t339 77).bind fun t342 => (if t342 = true then (secateurlaw07_OpLacks.j1 k (bt (⟨#[97, 98, 99, 67, 70, 77, 118]⟩ : ByteArray) (Int.tmod (wrap64 (x1)) 7)) true x336000 x336001 x336002 x336003 x336004 x336005 x336006 x336007 x336008) else (if (bt (⟨#[97, 98, 99, 67, 70, 77, 118]⟩ : ByteArray) (Int.tmod (wrap64 (x1)) 7)) = 70 then ((secateurref07_Has.f t339 77).bind fun t343 => (secateurlaw07_OpLacks.j1 k (bt (⟨#[97, 98, 99, 67, 70, 77, 118]⟩ : ByteArray) (Int.tmod (wrap64 (x1)) 7)) t343 x336000 x336001 x336002 x336003 x336004 x336005 x336006 x336007 x336008)) else (secateurlaw07_OpLacks.j1 k (bt (⟨#[97, 98, 99, 67, 70, 77, 118]⟩ : ByteArray) (Int.tmod (wrap64 (x1)) 7)) false x336000 x336001 x336002 x336003 x336004 x336005 x336006 x336007 x336008)))))) else (if (bt (⟨#[97, 98, 99, 67, 70, 77, 118]⟩ : ByteArray) (Int.tmod (wrap64 (x1)) 7)) = 70 then ((secateurref07_Has.f t339 77).bind fun t344 => (secateurlaw07_OpLacks.j1 k (bt (⟨#[97, 98, 99, 67, 70, 77, 118]⟩ : ByteArray) (Int.tmod (wrap64 (x1)) 7)) t344 x336000 x336001 x336002 x336003 x336004 x336005 x336006 x336007 x336008)) else (secateurlaw07_OpLacks.j1 k (bt (⟨#[97, 98, 99, 67, 70, 77, 118]⟩ : ByteArray) (Int.tmod (wrap64 (x1)) 7)) false x336000 x336001 x336002 x336003 x336004 x336005 x336006 x336007 x336008)))))) else (none)) else (none))
def secateurlaw07_OpLacks.j1 : Nat → Int → Bool → Int → Int → Int → Int → Int → ByteArray → ByteArray → ByteArray → List Int → Option (Bool)
  | 0, _, _, _, _, _, _, _, _, _, _, _ => none
  | k + 1, x6, x48, x336000, x336001, x336002, x336003, x336004, x336005, x336006, x336007, x336008 => if x48 = true then ((secateurlaw07_live.f k).bind fun t345 => (some t345)) else (if x6 = 97 then ((secateurlaw07_live.f k).bind fun t346 => (if t346 = true then ((op_Fits.f x336000 1 x336002 x336003 x336004 x336005 x336006 x336007 x336008 32 256).bind fun t347 => (some (t347 == 1))) else (some false))) else (if x6 = 98 then ((secateurlaw07_live.f k).bind fun t348 => (if t348 = true then ((op_Fits.f x336000 x336001 1 x336003 x336004 x336005 x336006 x336007 x336008 32 256).bind fun t349 => (some (t349 == 1))) else (some false))) else (if x6 = 99 then ((secateurlaw07_live.f k).bind fun t350 => (if t350 = true then ((op_Fits.f x336000 x336001 x336002 1 x336004 x336005 x336006 x336007 x336008 32 256).bind fun t351 => (some (t351 == 1))) else (some false))) else (if x6 = 67 then ((secateurlaw07_live.f k).bind fun t352 => (if t352 = true then ((op_Fits.f x336000 x336001 x336002 x336003 x336004 (⟨#[65]⟩ : ByteArray) x336006 x336007 x336008 32 256).bind fun t353 => (some (t353 == 1))) else (some false))) else (if x6 = 70 then ((secateurlaw07_live.f k).bind fun t354 => (if t354 = true then ((op_Fits.f x336000 x336001 x336002 x336003 x336004 x336005 (⟨#[102]⟩ : ByteArray) x336007 x336008 32 256).bind fun t355 => (some (t355 == 1))) else (some false))) else (if x6 = 77 then ((secateurlaw07_live.f k).bind fun t356 => (if t356 = true then ((op_Fits.f x336000 x336001 x336002 x336003 x336004 x336005 x336006 (⟨#[40, 41, 86]⟩ : ByteArray) x336008 32 256).bind fun t357 => (some (t357 == 1))) else (some false))) else ((secateurlaw07_live.f k).bind fun t361 => (if t361 = true then ((op_Fits.f x336000 x336001 x336002 x336003 x336004 x336005 x336006 x336007 (([1] : List Int)) 32 256).bind fun t362 => (some (t362 == 1))) else (some false)))))))))
end
def secateurlaw07_OpLacks.g (k : Nat) (a0_0 : Int) (a0_1 : Int) (a0_2 : Int) (a0_3 : Int) (a0_4 : Int) (a0_5 : ByteArray) (a0_6 : ByteArray) (a0_7 : ByteArray) (l0_8 : List Int) (a1 : Int) : Option (Bool) := (secateurlaw07_long.f a0_0 a0_1 a0_2 a0_3 a0_4 a0_5 a0_6 a0_7 l0_8).bind fun t336 => (if t336 = true then (secateurlaw07_OpLacks.j0 k a1 true a0_0 a0_1 a0_2 a0_3 a0_4 a0_5 a0_6 a0_7 l0_8) else ((op_Fits.f a0_0 a0_1 a0_2 a0_3 a0_4 a0_5 a0_6 a0_7 l0_8 32 256).bind fun t337 => (secateurlaw07_OpLacks.j0 k a1 (t337 != 0) a0_0 a0_1 a0_2 a0_3 a0_4 a0_5 a0_6 a0_7 l0_8)))
theorem secateurlaw07_OpLacks.mono_l : ∀ k, (∀ y0 y1 y2 y3 y4 y5 y6 y7 y8 y9 y10, LeO (secateurlaw07_OpLacks.j0 k y0 y1 y2 y3 y4 y5 y6 y7 y8 y9 y10) (secateurlaw07_OpLacks.j0 (k + 1) y0 y1 y2 y3 y4 y5 y6 y7 y8 y9 y10)) ∧ (∀ y0 y1 y2 y3 y4 y5 y6 y7 y8 y9 y10, LeO (secateurlaw07_OpLacks.j1 k y0 y1 y2 y3 y4 y5 y6 y7 y8 y9 y10) (secateurlaw07_OpLacks.j1 (k + 1) y0 y1 y2 y3 y4 y5 y6 y7 y8 y9 y10))
  | 0 => ⟨fun _ _ _ _ _ _ _ _ _ _ _ r h => by simp [secateurlaw07_OpLacks.j0] at h, fun _ _ _ _ _ _ _ _ _ _ _ r h => by simp [secateurlaw07_OpLacks.j1] at h⟩
  | k + 1 => by
    obtain ⟨ih0, ih1⟩ := secateurlaw07_OpLacks.mono_l k
    refine ⟨?_, ?_⟩
    · intro y0 y1 y2 y3 y4 y5 y6 y7 y8 y9 y10
      unfold secateurlaw07_OpLacks.j0
      repeat' first
      | (with_reducible exact ih0 _ _ _ _ _ _ _ _ _ _ _)
      | (with_reducible exact ih1 _ _ _ _ _ _ _ _ _ _ _)
      | (with_reducible exact secateurlaw07_live.mono _)
      | (with_reducible exact LeO.refl _)
      | (with_reducible exact LeO.none _)
      | (with_reducible refine LeO.ite ?_ ?_)
      | (with_reducible refine LeO.bind ?_ (fun _ => ?_))
      | exact ih0 _ _ _ _ _ _ _ _ _ _ _
      | exact ih1 _ _ _ _ _ _ _ _ _ _ _
      | exact secateurlaw07_live.mono _
      | exact LeO.none _
      | refine LeO.ite ?_ ?_
      | refine LeO.bind ?_ (fun _ => ?_)
    · intro y0 y1 y2 y3 y4 y5 y6 y7 y8 y9 y10
      unfold secateurlaw07_OpLacks.j1
      repeat' first
      | (with_reducible exact ih0 _ _ _ _ _ _ _ _ _ _ _)
      | (with_reducible exact ih1 _ _ _ _ _ _ _ _ _ _ _)
      | (with_reducible exact secateurlaw07_live.mono _)
      | (with_reducible exact LeO.refl _)
      | (with_reducible exact LeO.none _)
      | (with_reducible refine LeO.ite ?_ ?_)
      | (with_reducible refine LeO.bind ?_ (fun _ => ?_))
      | exact ih0 _ _ _ _ _ _ _ _ _ _ _
      | exact ih1 _ _ _ _ _ _ _ _ _ _ _
      | exact secateurlaw07_live.mono _
      | exact LeO.none _
      | refine LeO.ite ?_ ?_
      | refine LeO.bind ?_ (fun _ => ?_)
theorem secateurlaw07_OpLacks.gmono : ∀ a0 a1 a2 a3 a4 a5 a6 a7 a8 a9 k, LeO (secateurlaw07_OpLacks.g k a0 a1 a2 a3 a4 a5 a6 a7 a8 a9) (secateurlaw07_OpLacks.g (k + 1) a0 a1 a2 a3 a4 a5 a6 a7 a8 a9) := by
  intro a0 a1 a2 a3 a4 a5 a6 a7 a8 a9 k
  obtain ⟨ih0, ih1⟩ := secateurlaw07_OpLacks.mono_l k
  unfold secateurlaw07_OpLacks.g
  repeat' first
      | (with_reducible exact ih0 _ _ _ _ _ _ _ _ _ _ _)
      | (with_reducible exact ih1 _ _ _ _ _ _ _ _ _ _ _)
      | (with_reducible exact secateurlaw07_live.mono _)
      | (with_reducible exact LeO.refl _)
      | (with_reducible exact LeO.none _)
      | (with_reducible refine LeO.ite ?_ ?_)
      | (with_reducible refine LeO.bind ?_ (fun _ => ?_))
      | exact ih0 _ _ _ _ _ _ _ _ _ _ _
      | exact ih1 _ _ _ _ _ _ _ _ _ _ _
      | exact secateurlaw07_live.mono _
      | exact LeO.none _
      | refine LeO.ite ?_ ?_
      | refine LeO.bind ?_ (fun _ => ?_)
set_option maxHeartbeats 8000000 in
set_option maxRecDepth 100000 in
theorem secateurlaw07_OpLacks.gcalls (k : Nat) (a0_0 : Int) (a0_1 : Int) (a0_2 : Int) (a0_3 : Int) (a0_4 : Int) (a0_5 : ByteArray) (a0_6 : ByteArray) (a0_7 : ByteArray) (A0_8 : Option Addr) (c0_8 : Nat) (l0_8 : List Int) (a1 : Int) (r : Bool) (w : World) (hG : GW w) (hr0_8 : Kd.C (Kd.int .i64) w A0_8 l0_8.length l0_8) (hc0_8 : l0_8.length ≤ c0_8) (h : secateurlaw07_OpLacks.g k a0_0 a0_1 a0_2 a0_3 a0_4 a0_5 a0_6 a0_7 l0_8 a1 = some r) (hrt : r = true) :
    Calls Tryd.prog 8 #[.agg #[.int .i64 a0_0, .int .i64 a0_1, .int .i64 a0_2, .int .i64 a0_3, .int .i64 a0_4, .string a0_5, .string a0_6, .string a0_7, .slice A0_8 l0_8.length c0_8], .int .u8 a1] w fun e w' => e = .returned (.bool r) ∧ Below w.heap.size w w' := by
  have hu44 := Tryd.underlying44
  have HR0_8 := Aside0.mk hr0_8
  have HC0_8 := Aside0.mk hc0_8
  clear hr0_8 hc0_8
  have HRT := Aside0.mk hrt
  clear hrt
  have HG := Aside0.mk hG
  clear hG
  have HB := Aside0.mk (Below.refl w.heap.size w)
  have H : ((secateurlaw07_long.f a0_0 a0_1 a0_2 a0_3 a0_4 a0_5 a0_6 a0_7 l0_8).bind fun t336 => (if t336 = true then (secateurlaw07_OpLacks.j0 k a1 true a0_0 a0_1 a0_2 a0_3 a0_4 a0_5 a0_6 a0_7 l0_8) else ((op_Fits.f a0_0 a0_1 a0_2 a0_3 a0_4 a0_5 a0_6 a0_7 l0_8 32 256).bind fun t337 => (secateurlaw07_OpLacks.j0 k a1 (t337 != 0) a0_0 a0_1 a0_2 a0_3 a0_4 a0_5 a0_6 a0_7 l0_8)))) = some r := h
  clear h
  have HC3 := Aside0.mk H
  clear H
  go_enter Tryd.func8, Tryd.ntmps8
  go_upto_region 1 with (first | ((with_reducible refine gate_dst (N := 2) rfl ?_); refine box_event ?hg (N := 2) ?hd (cs := #[.int .i64 a0_0, .int .i64 a0_1, .int .i64 a0_2, .int .i64 a0_3, .int .i64 a0_4, .string a0_5, .string a0_6, .string a0_7, .slice A0_8 l0_8.length c0_8]) (t := 44) ?hr ?_; (case hd => rfl); (case hg => rfl); (case hr => first | (go_simp; done) | (go_simp; rfl)); intro gb335 hg w4 hbox hb; have n0_ := Aside0.mk (below_step (by repeat (first | (with_reducible first | exact HB.out | apply below_alloc | apply pw_below_drewN | apply below_drew1) | exact HB.out)) hb); have n1_ := Aside0.mk (hbox); have n2_ := Aside0.mk ((by rw [hg]; exact (below_size (by repeat (first | (with_reducible first | exact HB.out | apply below_alloc | apply pw_below_drewN | apply below_drew1) | exact HB.out))) : w.heap.size ≤ gb335)); have n3_ := Aside0.mk ((by rw [hg]; exact (below_size (by repeat (first | (with_reducible first | exact HB.out | apply below_alloc | apply pw_below_drewN | apply below_drew1) | exact HB.out))) : w.heap.size ≤ gb335)); clear HB; have HB := n0_; have BK335 := n1_; have GW335 := n2_; have GE335 := n3_; clear n0_ n1_ n2_ n3_; clear hb hbox hg))
  (try simp only [Act.put, List.setIfInBounds_toArray, List.set_cons_zero, List.set_cons_succ])
  go_cut [14] (fun v14 wc => ∃ (kq : Nat) (x14_2 : Bool), v14 = .bool x14_2 ∧ Aside0 (secateurlaw07_OpLacks.j0 kq a1 x14_2 a0_0 a0_1 a0_2 a0_3 a0_4 a0_5 a0_6 a0_7 l0_8 = some r) ∧ Aside0 (kq ≤ k) ∧ Aside0 (wc.heap[gb335]? = some (.cells #[.int .i64 a0_0, .int .i64 a0_1, .int .i64 a0_2, .int .i64 a0_3, .int .i64 a0_4, .string a0_5, .string a0_6, .string a0_7, (.slice A0_8 l0_8.length c0_8)] 44 (0, 0))) ∧ Aside0 (Below w.heap.size w wc))
  case first =>
    have H := HC3.out
    clear HC3
    replace H := Option.bind_eq_some_iff.mp H
    obtain ⟨t336, A50, H⟩ := H
    replace H : (if t336 = true then (secateurlaw07_OpLacks.j0 k a1 true a0_0 a0_1 a0_2 a0_3 a0_4 a0_5 a0_6 a0_7 l0_8) else ((op_Fits.f a0_0 a0_1 a0_2 a0_3 a0_4 a0_5 a0_6 a0_7 l0_8 32 256).bind fun t337 => (secateurlaw07_OpLacks.j0 k a1 (t337 != 0) a0_0 a0_1 a0_2 a0_3 a0_4 a0_5 a0_6 a0_7 l0_8))) = some r := H
    have A5 := Aside0.mk A50
    clear A50
    by_cases c6 : t336 = true
    · subst c6
      have H1 : (secateurlaw07_OpLacks.j0 k a1 true a0_0 a0_1 a0_2 a0_3 a0_4 a0_5 a0_6 a0_7 l0_8) = some r := by rw [if_pos rfl] at H; exact H
      clear H
      have H := H1
      clear H1
      have H' := Aside0.mk H
      clear H
      have hcz7_0 : w4.cell? ⟨gb335, 0, none⟩ = some (.int .i64 a0_0) := (blk_cell BK335.out 0).trans rfl
      have hcz7_1 : w4.cell? ⟨gb335, 1, none⟩ = some (.int .i64 a0_1) := (blk_cell BK335.out 1).trans rfl
      have hcz7_2 : w4.cell? ⟨gb335, 2, none⟩ = some (.int .i64 a0_2) := (blk_cell BK335.out 2).trans rfl
      have hcz7_3 : w4.cell? ⟨gb335, 3, none⟩ = some (.int .i64 a0_3) := (blk_cell BK335.out 3).trans rfl
      have hcz7_4 : w4.cell? ⟨gb335, 4, none⟩ = some (.int .i64 a0_4) := (blk_cell BK335.out 4).trans rfl
      have hcz7_5 : w4.cell? ⟨gb335, 5, none⟩ = some (.string a0_5) := (blk_cell BK335.out 5).trans rfl
      have hcz7_6 : w4.cell? ⟨gb335, 6, none⟩ = some (.string a0_6) := (blk_cell BK335.out 6).trans rfl
      have hcz7_7 : w4.cell? ⟨gb335, 7, none⟩ = some (.string a0_7) := (blk_cell BK335.out 7).trans rfl
      have hcz7_8 : w4.cell? ⟨gb335, 8, none⟩ = some (.slice A0_8 l0_8.length c0_8) := (blk_cell BK335.out 8).trans rfl
      have hfz7_0 := blk_frozen BK335.out 0
      have hfz7_1 := blk_frozen BK335.out 1
      have hfz7_2 := blk_frozen BK335.out 2
      have hfz7_3 := blk_frozen BK335.out 3
      have hfz7_4 := blk_frozen BK335.out 4
      have hfz7_5 := blk_frozen BK335.out 5
      have hfz7_6 := blk_frozen BK335.out 6
      have hfz7_7 := blk_frozen BK335.out 7
      have hfz7_8 := blk_frozen BK335.out 8
      go_wp2_with (first | ((with_reducible refine gate_callee (f := 22) rfl ?_); refine goesL_ (some 9) rfl rfl Tryd.func22 (by kernel_rfl) rfl #[.agg #[.int .i64 a0_0, .int .i64 a0_1, .int .i64 a0_2, .int .i64 a0_3, .int .i64 a0_4, .string a0_5, .string a0_6, .string a0_7, .slice A0_8 l0_8.length c0_8]] rfl (by (try simp only [List.map_toArray, List.map_cons, List.map_nil]); first | done | rfl | (simp only [List.length_drop, List.length_take]; rfl)) ?_; (with_reducible refine (secateurlaw07_long.calls a0_0 a0_1 a0_2 a0_3 a0_4 a0_5 a0_6 a0_7 _ _ l0_8 true _ ?side1 ?side2 A5.out).mono ?_); (case side1 => repeat (first | exact (Kd.C_below HR0_8.out HB.out) | (with_reducible refine Kd.C_alloc ?_ _) | (with_reducible refine Kd.C_drewN ?_ _) | (with_reducible refine Kd.C_drew ?_))); (case side2 => exact HC0_8.out); rintro e w8 ⟨rfl, hb⟩; refine ⟨_, rfl, ?_⟩; have n0_ := Aside0.mk (blk_below (g := gb335) (o := .cells #[.int .i64 a0_0, .int .i64 a0_1, .int .i64 a0_2, .int .i64 a0_3, .int .i64 a0_4, .string a0_5, .string a0_6, .string a0_7, .slice A0_8 l0_8.length c0_8] 44 (0, 0)) (by (with_reducible repeat (first | refine blk_drewN ?_ _ | refine blk_drew ?_ | refine blk_alloc ?_ _)); exact BK335.out) hb); have n1_ := Aside0.mk (below_step (by repeat (first | (with_reducible first | exact HB.out | apply below_alloc | apply pw_below_drewN | apply below_drew1 | refine below_set ?_ GE335.out) | exact HB.out)) hb); clear BK335; clear HB; have BK335 := n0_; have HB := n1_; clear n0_ n1_; (try clear hb); (try clear hb2); (try clear hk); (try clear hi)))
      go_meet
      case rel => exact ⟨_, (true), (by first | rfl | (simp; done) | (simp [*]; done) | (exfalso; simp only [beq_iff_eq] at *; omega)), H', ⟨by first | omega | exact Nat.le_refl _⟩, ⟨by (with_reducible repeat (first | refine blk_drewN ?_ _ | refine blk_drew ?_ | refine blk_alloc ?_ _)); exact BK335.out⟩, ⟨by repeat (first | (with_reducible first | exact HB.out | apply below_alloc | apply pw_below_drewN | apply below_drew1 | refine below_set ?_ GE335.out) | exact HB.out)⟩⟩
    · replace c6 := Bool.eq_false_iff.mpr c6
      subst c6
      have H1 : ((op_Fits.f a0_0 a0_1 a0_2 a0_3 a0_4 a0_5 a0_6 a0_7 l0_8 32 256).bind fun t337 => (secateurlaw07_OpLacks.j0 k a1 (t337 != 0) a0_0 a0_1 a0_2 a0_3 a0_4 a0_5 a0_6 a0_7 l0_8)) = some r := by rw [if_neg (show ¬ (false = true) by decide)] at H; exact H
      clear H
      have H := H1
      clear H1
      replace H := Option.bind_eq_some_iff.mp H
      obtain ⟨t337, A90, H⟩ := H
      replace H : (secateurlaw07_OpLacks.j0 k a1 (t337 != 0) a0_0 a0_1 a0_2 a0_3 a0_4 a0_5 a0_6 a0_7 l0_8) = some r := H
      have A9 := Aside0.mk A90
      clear A90
      have H' := Aside0.mk H
      clear H
      have hcz10_0 : w4.cell? ⟨gb335, 0, none⟩ = some (.int .i64 a0_0) := (blk_cell BK335.out 0).trans rfl
      have hcz10_1 : w4.cell? ⟨gb335, 1, none⟩ = some (.int .i64 a0_1) := (blk_cell BK335.out 1).trans rfl
      have hcz10_2 : w4.cell? ⟨gb335, 2, none⟩ = some (.int .i64 a0_2) := (blk_cell BK335.out 2).trans rfl
      have hcz10_3 : w4.cell? ⟨gb335, 3, none⟩ = some (.int .i64 a0_3) := (blk_cell BK335.out 3).trans rfl
      have hcz10_4 : w4.cell? ⟨gb335, 4, none⟩ = some (.int .i64 a0_4) := (blk_cell BK335.out 4).trans rfl
      have hcz10_5 : w4.cell? ⟨gb335, 5, none⟩ = some (.string a0_5) := (blk_cell BK335.out 5).trans rfl
      have hcz10_6 : w4.cell? ⟨gb335, 6, none⟩ = some (.string a0_6) := (blk_cell BK335.out 6).trans rfl
      have hcz10_7 : w4.cell? ⟨gb335, 7, none⟩ = some (.string a0_7) := (blk_cell BK335.out 7).trans rfl
      have hcz10_8 : w4.cell? ⟨gb335, 8, none⟩ = some (.slice A0_8 l0_8.length c0_8) := (blk_cell BK335.out 8).trans rfl
      have hfz10_0 := blk_frozen BK335.out 0
      have hfz10_1 := blk_frozen BK335.out 1
      have hfz10_2 := blk_frozen BK335.out 2
      have hfz10_3 := blk_frozen BK335.out 3
      have hfz10_4 := blk_frozen BK335.out 4
      have hfz10_5 := blk_frozen BK335.out 5
      have hfz10_6 := blk_frozen BK335.out 6
      have hfz10_7 := blk_frozen BK335.out 7
      have hfz10_8 := blk_frozen BK335.out 8
      go_wp2_with (first | ((with_reducible refine gate_callee (f := 22) rfl ?_); refine goesL_ (some 9) rfl rfl Tryd.func22 (by kernel_rfl) rfl #[.agg #[.int .i64 a0_0, .int .i64 a0_1, .int .i64 a0_2, .int .i64 a0_3, .int .i64 a0_4, .string a0_5, .string a0_6, .string a0_7, .slice A0_8 l0_8.length c0_8]] rfl (by (try simp only [List.map_toArray, List.map_cons, List.map_nil]); first | done | rfl | (simp only [List.length_drop, List.length_take]; rfl)) ?_; (with_reducible refine (secateurlaw07_long.calls a0_0 a0_1 a0_2 a0_3 a0_4 a0_5 a0_6 a0_7 _ _ l0_8 false _ ?side1 ?side2 A5.out).mono ?_); (case side1 => repeat (first | exact (Kd.C_below HR0_8.out HB.out) | (with_reducible refine Kd.C_alloc ?_ _) | (with_reducible refine Kd.C_drewN ?_ _) | (with_reducible refine Kd.C_drew ?_))); (case side2 => exact HC0_8.out); rintro e w11 ⟨rfl, hb⟩; refine ⟨_, rfl, ?_⟩; have n0_ := Aside0.mk (blk_below (g := gb335) (o := .cells #[.int .i64 a0_0, .int .i64 a0_1, .int .i64 a0_2, .int .i64 a0_3, .int .i64 a0_4, .string a0_5, .string a0_6, .string a0_7, .slice A0_8 l0_8.length c0_8] 44 (0, 0)) (by (with_reducible repeat (first | refine blk_drewN ?_ _ | refine blk_drew ?_ | refine blk_alloc ?_ _)); exact BK335.out) hb); have n1_ := Aside0.mk (below_step (by repeat (first | (with_reducible first | exact HB.out | apply below_alloc | apply pw_below_drewN | apply below_drew1 | refine below_set ?_ GE335.out) | exact HB.out)) hb); clear BK335; clear HB; have BK335 := n0_; have HB := n1_; clear n0_ n1_; (try clear hb); (try clear hb2); (try clear hk); (try clear hi); have hcz12_0 : w11.cell? ⟨gb335, 0, none⟩ = some (.int .i64 a0_0) := (blk_cell BK335.out 0).trans rfl; have hcz12_1 : w11.cell? ⟨gb335, 1, none⟩ = some (.int .i64 a0_1) := (blk_cell BK335.out 1).trans rfl; have hcz12_2 : w11.cell? ⟨gb335, 2, none⟩ = some (.int .i64 a0_2) := (blk_cell BK335.out 2).trans rfl; have hcz12_3 : w11.cell? ⟨gb335, 3, none⟩ = some (.int .i64 a0_3) := (blk_cell BK335.out 3).trans rfl; have hcz12_4 : w11.cell? ⟨gb335, 4, none⟩ = some (.int .i64 a0_4) := (blk_cell BK335.out 4).trans rfl; have hcz12_5 : w11.cell? ⟨gb335, 5, none⟩ = some (.string a0_5) := (blk_cell BK335.out 5).trans rfl; have hcz12_6 : w11.cell? ⟨gb335, 6, none⟩ = some (.string a0_6) := (blk_cell BK335.out 6).trans rfl; have hcz12_7 : w11.cell? ⟨gb335, 7, none⟩ = some (.string a0_7) := (blk_cell BK335.out 7).trans rfl; have hcz12_8 : w11.cell? ⟨gb335, 8, none⟩ = some (.slice A0_8 l0_8.length c0_8) := (blk_cell BK335.out 8).trans rfl; have hfz12_0 := blk_frozen BK335.out 0; have hfz12_1 := blk_frozen BK335.out 1; have hfz12_2 := blk_frozen BK335.out 2; have hfz12_3 := blk_frozen BK335.out 3; have hfz12_4 := blk_frozen BK335.out 4; have hfz12_5 := blk_frozen BK335.out 5; have hfz12_6 := blk_frozen BK335.out 6; have hfz12_7 := blk_frozen BK335.out 7; have hfz12_8 := blk_frozen BK335.out 8) | (go_at_call 23; (with_reducible refine (op_Fits.calls a0_0 a0_1 a0_2 a0_3 a0_4 a0_5 a0_6 a0_7 _ _ l0_8 32 256 t337 _ ?side3 ?side1 ?side2 A9.out).mono ?_); (case side1 => repeat (first | exact (Kd.C_below HR0_8.out HB.out) | (with_reducible refine Kd.C_alloc ?_ _) | (with_reducible refine Kd.C_drewN ?_ _) | (with_reducible refine Kd.C_drew ?_))); (case side2 => exact HC0_8.out); (case side3 => repeat (first | exact (GW.below HG.out HB.out) | (with_reducible refine GW.alloc ?_ _) | (with_reducible refine GW.drewN ?_ _) | (with_reducible refine GW.drew ?_))); rintro e w13 ⟨rfl, hb⟩; have n0_ := Aside0.mk (blk_below (g := gb335) (o := .cells #[.int .i64 a0_0, .int .i64 a0_1, .int .i64 a0_2, .int .i64 a0_3, .int .i64 a0_4, .string a0_5, .string a0_6, .string a0_7, .slice A0_8 l0_8.length c0_8] 44 (0, 0)) (by (with_reducible repeat (first | refine blk_drewN ?_ _ | refine blk_drew ?_ | refine blk_alloc ?_ _)); exact BK335.out) hb); have n1_ := Aside0.mk (below_step (by repeat (first | (with_reducible first | exact HB.out | apply below_alloc | apply pw_below_drewN | apply below_drew1 | refine below_set ?_ GE335.out) | exact HB.out)) hb); clear BK335; clear HB; have BK335 := n0_; have HB := n1_; clear n0_ n1_; (try clear hb); (try clear hb2); (try clear hk); (try clear hi)))
      go_meet
      case rel => exact ⟨_, ((t337 != 0)), (by first | rfl | (simp; done) | (simp [*]; done) | (exfalso; simp only [beq_iff_eq] at *; omega)), H', ⟨by first | omega | exact Nat.le_refl _⟩, ⟨by (with_reducible repeat (first | refine blk_drewN ?_ _ | refine blk_drew ?_ | refine blk_alloc ?_ _)); exact BK335.out⟩, ⟨by repeat (first | (with_reducible first | exact HB.out | apply below_alloc | apply pw_below_drewN | apply below_drew1 | refine below_set ?_ GE335.out) | exact HB.out)⟩⟩
  case rest =>
    clear HC3
    try clear c2
    try clear p2
    try clear c6
    try clear c8
    try clear hcz10_0
    try clear hcz10_1
    try clear hcz10_2
    try clear hcz10_3
    try clear hcz10_4
    try clear hcz10_5
    try clear hcz10_6
    try clear hcz10_7
    try clear hcz10_8
    try clear hcz12_0
    try clear hcz12_1
    try clear hcz12_2
    try clear hcz12_3
    try clear hcz12_4
    try clear hcz12_5
    try clear hcz12_6
    try clear hcz12_7
    try clear hcz12_8
    try clear hcz7_0
    try clear hcz7_1
    try clear hcz7_2
    try clear hcz7_3
    try clear hcz7_4
    try clear hcz7_5
    try clear hcz7_6
    try clear hcz7_7
    try clear hcz7_8
    try clear hfz10_0
    try clear hfz10_1
    try clear hfz10_2
    try clear hfz10_3
    try clear hfz10_4
    try clear hfz10_5
    try clear hfz10_6
    try clear hfz10_7
    try clear hfz10_8
    try clear hfz12_0
    try clear hfz12_1
    try clear hfz12_2
    try clear hfz12_3
    try clear hfz12_4
    try clear hfz12_5
    try clear hfz12_6
    try clear hfz12_7
    try clear hfz12_8
    try clear hfz7_0
    try clear hfz7_1
    try clear hfz7_2
    try clear hfz7_3
    try clear hfz7_4
    try clear hfz7_5
    try clear hfz7_6
    try clear hfz7_7
    try clear hfz7_8
    obtain ⟨kq, x14_2, rfl, HA, HJ2, BK335, HB⟩ := hcut
    cases kq with
    | zero => exact absurd HA.out (by simp [secateurlaw07_OpLacks.j0])
    | succ kj2 =>
      have H := HA.out
      clear HA
      simp only [secateurlaw07_OpLacks.j0] at H
      by_cases c14 : x14_2 = true
      · subst c14
        have H1 : ((secateurlaw07_live.f kj2).bind fun t338 => (some t338)) = some r := by rw [if_pos rfl] at H; exact H
        clear H
        have H := H1
        clear H1
        replace H := Option.bind_eq_some_iff.mp H
        obtain ⟨t338, A150, H⟩ := H
        replace H : (some t338) = some r := H
        have A15 := Aside0.mk A150
        clear A150
        obtain rfl := Option.some.inj H
        simp only [Option.some.injEq, Prod.mk.injEq] at H
        obtain ⟨rfl⟩ := H
        go_wp2_with (first | ((with_reducible refine gate_callee (f := 16) rfl ?_); refine goesL_ (some 15) rfl rfl Tryd.func16 (by kernel_rfl) rfl #[] rfl (by (try simp only [List.map_toArray, List.map_cons, List.map_nil]); first | done | rfl | (simp only [List.length_drop, List.length_take]; rfl)) ?_; (with_reducible refine (secateurlaw07_live.calls kj2  t338 _ ?side1 A15.out).mono ?_); (case side1 => repeat (first | exact (GW.below HG.out HB.out) | (with_reducible refine GW.alloc ?_ _) | (with_reducible refine GW.drewN ?_ _) | (with_reducible refine GW.drew ?_))); rintro e w16 ⟨rfl, hb⟩; refine ⟨_, rfl, ?_⟩; have n0_ := Aside0.mk (blk_below (g := gb335) (o := .cells #[.int .i64 a0_0, .int .i64 a0_1, .int .i64 a0_2, .int .i64 a0_3, .int .i64 a0_4, .string a0_5, .string a0_6, .string a0_7, .slice A0_8 l0_8.length c0_8] 44 (0, 0)) (by (with_reducible repeat (first | refine blk_drewN ?_ _ | refine blk_drew ?_ | refine blk_alloc ?_ _)); exact BK335.out) hb); have n1_ := Aside0.mk (below_step (by repeat (first | (with_reducible first | exact HB.out | apply below_alloc | apply pw_below_drewN | apply below_drew1 | refine below_set ?_ GE335.out) | exact HB.out)) hb); clear BK335; clear HB; have BK335 := n0_; have HB := n1_; clear n0_ n1_; (try clear hb); (try clear hb2); (try clear hk); (try clear hi)))
        go_ret
        exact ⟨by first | rfl | (simp [errW_none, errW_some] <;> rfl) | (simp [*, errW_none, errW_some] <;> rfl), by repeat (first | (with_reducible first | exact HB.out | apply below_alloc | apply pw_below_drewN | apply below_drew1 | refine below_set ?_ GE335.out) | exact HB.out)⟩
      · replace c14 := Bool.eq_false_iff.mpr c14
        subst c14
        have H1 : (if 0 ≤ (Int.tmod (wrap64 (a1)) 7) then (if (Int.tmod (wrap64 (a1)) 7) < 7 then ((op_Shape.f a0_0).bind fun t339 => ((secateurref07_Has.f t339 (bt (⟨#[97, 98, 99, 67, 70, 77, 118]⟩ : ByteArray) (Int.tmod (wrap64 (a1)) 7))).bind fun t340 => (if t340 = true then (secateurlaw07_OpLacks.j1 kj2 (bt (⟨#[97, 98, 99, 67, 70, 77, 118]⟩ : ByteArray) (Int.tmod (wrap64 (a1)) 7)) true a0_0 a0_1 a0_2 a0_3 a0_4 a0_5 a0_6 a0_7 l0_8) else (if (bt (⟨#[97, 98, 99, 67, 70, 77, 118]⟩ : ByteArray) (Int.tmod (wrap64 (a1)) 7)) = 67 then ((secateurref07_Has.f t339 70).bind fun t341 => (if t341 = true then (secateurlaw07_OpLacks.j1 kj2 (bt (⟨#[97, 98, 99, 67, 70, 77, 118]⟩ : ByteArray) (Int.tmod (wrap64 (a1)) 7)) true a0_0 a0_1 a0_2 a0_3 a0_4 a0_5 a0_6 a0_7 l0_8) else ((secateurref07_Has.f t339 77).bind fun t342 => (if t342 = true then (secateurlaw07_OpLacks.j1 kj2 (bt (⟨#[97, 98, 99, 67, 70, 77, 118]⟩ : ByteArray) (Int.tmod (wrap64 (a1)) 7)) true a0_0 a0_1 a0_2 a0_3 a0_4 a0_5 a0_6 a0_7 l0_8) else (if (bt (⟨#[97, 98, 99, 67, 70, 77, 118]⟩ : ByteArray) (Int.tmod (wrap64 (a1)) 7)) = 70 then ((secateurref07_Has.f t339 77).bind fun t343 => (secateurlaw07_OpLacks.j1 kj2 (bt (⟨#[97, 98, 99, 67, 70, 77, 118]⟩ : ByteArray) (Int.tmod (wrap64 (a1)) 7)) t343 a0_0 a0_1 a0_2 a0_3 a0_4 a0_5 a0_6 a0_7 l0_8)) else (secateurlaw07_OpLacks.j1 kj2 (bt (⟨#[97, 98, 99, 67, 70, 77, 118]⟩ : ByteArray) (Int.tmod (wrap64 (a1)) 7)) false a0_0 a0_1 a0_2 a0_3 a0_4 a0_5 a0_6 a0_7 l0_8)))))) else (if (bt (⟨#[97, 98, 99, 67, 70, 77, 118]⟩ : ByteArray) (Int.tmod (wrap64 (a1)) 7)) = 70 then ((secateurref07_Has.f t339 77).bind fun t344 => (secateurlaw07_OpLacks.j1 kj2 (bt (⟨#[97, 98, 99, 67, 70, 77, 118]⟩ : ByteArray) (Int.tmod (wrap64 (a1)) 7)) t344 a0_0 a0_1 a0_2 a0_3 a0_4 a0_5 a0_6 a0_7 l0_8)) else (secateurlaw07_OpLacks.j1 kj2 (bt (⟨#[97, 98, 99, 67, 70, 77, 118]⟩ : ByteArray) (Int.tmod (wrap64 (a1)) 7)) false a0_0 a0_1 a0_2 a0_3 a0_4 a0_5 a0_6 a0_7 l0_8)))))) else (none)) else (none)) = some r := by rw [if_neg (show ¬ (false = true) by decide)] at H; exact H
        clear H
        have H := H1
        clear H1
        obtain ⟨ji17, hji17⟩ : ∃ j_ : Int, (Int.tmod (wrap64 (a1)) 7) = j_ := ⟨_, rfl⟩
        replace H : (if 0 ≤ (ji17) then (if (ji17) < 7 then ((op_Shape.f a0_0).bind fun t339 => ((secateurref07_Has.f t339 (bt (⟨#[97, 98, 99, 67, 70, 77, 118]⟩ : ByteArray) (ji17))).bind fun t340 => (if t340 = true then (secateurlaw07_OpLacks.j1 kj2 (bt (⟨#[97, 98, 99, 67, 70, 77, 118]⟩ : ByteArray) (ji17)) true a0_0 a0_1 a0_2 a0_3 a0_4 a0_5 a0_6 a0_7 l0_8) else (if (bt (⟨#[97, 98, 99, 67, 70, 77, 118]⟩ : ByteArray) (ji17)) = 67 then ((secateurref07_Has.f t339 70).bind fun t341 => (if t341 = true then (secateurlaw07_OpLacks.j1 kj2 (bt (⟨#[97, 98, 99, 67, 70, 77, 118]⟩ : ByteArray) (ji17)) true a0_0 a0_1 a0_2 a0_3 a0_4 a0_5 a0_6 a0_7 l0_8) else ((secateurref07_Has.f t339 77).bind fun t342 => (if t342 = true then (secateurlaw07_OpLacks.j1 kj2 (bt (⟨#[97, 98, 99, 67, 70, 77, 118]⟩ : ByteArray) (ji17)) true a0_0 a0_1 a0_2 a0_3 a0_4 a0_5 a0_6 a0_7 l0_8) else (if (bt (⟨#[97, 98, 99, 67, 70, 77, 118]⟩ : ByteArray) (ji17)) = 70 then ((secateurref07_Has.f t339 77).bind fun t343 => (secateurlaw07_OpLacks.j1 kj2 (bt (⟨#[97, 98, 99, 67, 70, 77, 118]⟩ : ByteArray) (ji17)) t343 a0_0 a0_1 a0_2 a0_3 a0_4 a0_5 a0_6 a0_7 l0_8)) else (secateurlaw07_OpLacks.j1 kj2 (bt (⟨#[97, 98, 99, 67, 70, 77, 118]⟩ : ByteArray) (ji17)) false a0_0 a0_1 a0_2 a0_3 a0_4 a0_5 a0_6 a0_7 l0_8)))))) else (if (bt (⟨#[97, 98, 99, 67, 70, 77, 118]⟩ : ByteArray) (ji17)) = 70 then ((secateurref07_Has.f t339 77).bind fun t344 => (secateurlaw07_OpLacks.j1 kj2 (bt (⟨#[97, 98, 99, 67, 70, 77, 118]⟩ : ByteArray) (ji17)) t344 a0_0 a0_1 a0_2 a0_3 a0_4 a0_5 a0_6 a0_7 l0_8)) else (secateurlaw07_OpLacks.j1 kj2 (bt (⟨#[97, 98, 99, 67, 70, 77, 118]⟩ : ByteArray) (ji17)) false a0_0 a0_1 a0_2 a0_3 a0_4 a0_5 a0_6 a0_7 l0_8)))))) else (none)) else (none)) = some r := by first | (rw [hji17] at H; exact H) | (simp only [hji17] at H ⊢; exact H)
        by_cases c18 : 0 ≤ (ji17)
        · rw [if_pos c18] at H
          have c18b0 : decide (0 ≤ (ji17)) = true := decide_eq_true c18
          clear c18
          by_cases c19 : (ji17) < 7
          · rw [if_pos c19] at H
            have c19b0 : decide ((ji17) < 7) = true := decide_eq_true c19
            clear c19
            replace H := Option.bind_eq_some_iff.mp H
            obtain ⟨t339, A210, H⟩ := H
            replace H : ((secateurref07_Has.f t339 (bt (⟨#[97, 98, 99, 67, 70, 77, 118]⟩ : ByteArray) (ji17))).bind fun t340 => (if t340 = true then (secateurlaw07_OpLacks.j1 kj2 (bt (⟨#[97, 98, 99, 67, 70, 77, 118]⟩ : ByteArray) (ji17)) true a0_0 a0_1 a0_2 a0_3 a0_4 a0_5 a0_6 a0_7 l0_8) else (if (bt (⟨#[97, 98, 99, 67, 70, 77, 118]⟩ : ByteArray) (ji17)) = 67 then ((secateurref07_Has.f t339 70).bind fun t341 => (if t341 = true then (secateurlaw07_OpLacks.j1 kj2 (bt (⟨#[97, 98, 99, 67, 70, 77, 118]⟩ : ByteArray) (ji17)) true a0_0 a0_1 a0_2 a0_3 a0_4 a0_5 a0_6 a0_7 l0_8) else ((secateurref07_Has.f t339 77).bind fun t342 => (if t342 = true then (secateurlaw07_OpLacks.j1 kj2 (bt (⟨#[97, 98, 99, 67, 70, 77, 118]⟩ : ByteArray) (ji17)) true a0_0 a0_1 a0_2 a0_3 a0_4 a0_5 a0_6 a0_7 l0_8) else (if (bt (⟨#[97, 98, 99, 67, 70, 77, 118]⟩ : ByteArray) (ji17)) = 70 then ((secateurref07_Has.f t339 77).bind fun t343 => (secateurlaw07_OpLacks.j1 kj2 (bt (⟨#[97, 98, 99, 67, 70, 77, 118]⟩ : ByteArray) (ji17)) t343 a0_0 a0_1 a0_2 a0_3 a0_4 a0_5 a0_6 a0_7 l0_8)) else (secateurlaw07_OpLacks.j1 kj2 (bt (⟨#[97, 98, 99, 67, 70, 77, 118]⟩ : ByteArray) (ji17)) false a0_0 a0_1 a0_2 a0_3 a0_4 a0_5 a0_6 a0_7 l0_8)))))) else (if (bt (⟨#[97, 98, 99, 67, 70, 77, 118]⟩ : ByteArray) (ji17)) = 70 then ((secateurref07_Has.f t339 77).bind fun t344 => (secateurlaw07_OpLacks.j1 kj2 (bt (⟨#[97, 98, 99, 67, 70, 77, 118]⟩ : ByteArray) (ji17)) t344 a0_0 a0_1 a0_2 a0_3 a0_4 a0_5 a0_6 a0_7 l0_8)) else (secateurlaw07_OpLacks.j1 kj2 (bt (⟨#[97, 98, 99, 67, 70, 77, 118]⟩ : ByteArray) (ji17)) false a0_0 a0_1 a0_2 a0_3 a0_4 a0_5 a0_6 a0_7 l0_8))))) = some r := H
            have A21 := Aside0.mk A210
            clear A210
            have HC22 := Aside0.mk H
            clear H
            have p20 : 0 ≤ ((ji17) : Int) := of_decide_eq_true (by first | (with_reducible assumption) | assumption)
            have q20 : (ji17) < (7 : Int) := of_decide_eq_true (by first | (with_reducible assumption) | assumption)
            have hx20 := bt_at (⟨#[97, 98, 99, 67, 70, 77, 118]⟩ : ByteArray) (ji17)
            replace p20 := eq_true p20
            replace q20 := eq_true q20
            have hcz23_0 : wc.cell? ⟨gb335, 0, none⟩ = some (.int .i64 a0_0) := (blk_cell BK335.out 0).trans rfl
            have hcz23_1 : wc.cell? ⟨gb335, 1, none⟩ = some (.int .i64 a0_1) := (blk_cell BK335.out 1).trans rfl
            have hcz23_2 : wc.cell? ⟨gb335, 2, none⟩ = some (.int .i64 a0_2) := (blk_cell BK335.out 2).trans rfl
            have hcz23_3 : wc.cell? ⟨gb335, 3, none⟩ = some (.int .i64 a0_3) := (blk_cell BK335.out 3).trans rfl
            have hcz23_4 : wc.cell? ⟨gb335, 4, none⟩ = some (.int .i64 a0_4) := (blk_cell BK335.out 4).trans rfl
            have hcz23_5 : wc.cell? ⟨gb335, 5, none⟩ = some (.string a0_5) := (blk_cell BK335.out 5).trans rfl
            have hcz23_6 : wc.cell? ⟨gb335, 6, none⟩ = some (.string a0_6) := (blk_cell BK335.out 6).trans rfl
            have hcz23_7 : wc.cell? ⟨gb335, 7, none⟩ = some (.string a0_7) := (blk_cell BK335.out 7).trans rfl
            have hcz23_8 : wc.cell? ⟨gb335, 8, none⟩ = some (.slice A0_8 l0_8.length c0_8) := (blk_cell BK335.out 8).trans rfl
            have hfz23_0 := blk_frozen BK335.out 0
            have hfz23_1 := blk_frozen BK335.out 1
            have hfz23_2 := blk_frozen BK335.out 2
            have hfz23_3 := blk_frozen BK335.out 3
            have hfz23_4 := blk_frozen BK335.out 4
            have hfz23_5 := blk_frozen BK335.out 5
            have hfz23_6 := blk_frozen BK335.out 6
            have hfz23_7 := blk_frozen BK335.out 7
            have hfz23_8 := blk_frozen BK335.out 8
            go_upto_region 6 with (first | ((with_reducible refine gate_callee (f := 10) rfl ?_); refine goesL_ (some 25) rfl rfl Tryd.func10 (by kernel_rfl) rfl #[.int .i64 a0_0] rfl (by (try simp only [List.map_toArray, List.map_cons, List.map_nil]); first | done | rfl | (simp only [List.length_drop, List.length_take]; rfl)) ?_; (with_reducible refine (op_Shape.calls a0_0 t339 _ ?side1 A21.out).mono ?_); (case side1 => repeat (first | exact (GW.below HG.out HB.out) | (with_reducible refine GW.alloc ?_ _) | (with_reducible refine GW.drewN ?_ _) | (with_reducible refine GW.drew ?_))); rintro e w' ⟨rfl, ⟨nd, rfl⟩⟩; refine ⟨_, rfl, ?_⟩))
            (try simp only [Act.put, List.setIfInBounds_toArray, List.set_cons_zero, List.set_cons_succ])
            go_cut [48] (fun v48 wc => ∃ (kq : Nat) (x48_21 : Bool), v48 = .bool x48_21 ∧ Aside0 (secateurlaw07_OpLacks.j1 kq (bt (⟨#[97, 98, 99, 67, 70, 77, 118]⟩ : ByteArray) (ji17)) x48_21 a0_0 a0_1 a0_2 a0_3 a0_4 a0_5 a0_6 a0_7 l0_8 = some r) ∧ Aside0 (kq ≤ kj2) ∧ Aside0 (wc.heap[gb335]? = some (.cells #[.int .i64 a0_0, .int .i64 a0_1, .int .i64 a0_2, .int .i64 a0_3, .int .i64 a0_4, .string a0_5, .string a0_6, .string a0_7, (.slice A0_8 l0_8.length c0_8)] 44 (0, 0))) ∧ Aside0 (Below w.heap.size w wc))
            case first =>
              have H := HC22.out
              clear HC22
              replace H := Option.bind_eq_some_iff.mp H
              obtain ⟨t340, A240, H⟩ := H
              replace H : (if t340 = true then (secateurlaw07_OpLacks.j1 kj2 (bt (⟨#[97, 98, 99, 67, 70, 77, 118]⟩ : ByteArray) (ji17)) true a0_0 a0_1 a0_2 a0_3 a0_4 a0_5 a0_6 a0_7 l0_8) else (if (bt (⟨#[97, 98, 99, 67, 70, 77, 118]⟩ : ByteArray) (ji17)) = 67 then ((secateurref07_Has.f t339 70).bind fun t341 => (if t341 = true then (secateurlaw07_OpLacks.j1 kj2 (bt (⟨#[97, 98, 99, 67, 70, 77, 118]⟩ : ByteArray) (ji17)) true a0_0 a0_1 a0_2 a0_3 a0_4 a0_5 a0_6 a0_7 l0_8) else ((secateurref07_Has.f t339 77).bind fun t342 => (if t342 = true then (secateurlaw07_OpLacks.j1 kj2 (bt (⟨#[97, 98, 99, 67, 70, 77, 118]⟩ : ByteArray) (ji17)) true a0_0 a0_1 a0_2 a0_3 a0_4 a0_5 a0_6 a0_7 l0_8) else (if (bt (⟨#[97, 98, 99, 67, 70, 77, 118]⟩ : ByteArray) (ji17)) = 70 then ((secateurref07_Has.f t339 77).bind fun t343 => (secateurlaw07_OpLacks.j1 kj2 (bt (⟨#[97, 98, 99, 67, 70, 77, 118]⟩ : ByteArray) (ji17)) t343 a0_0 a0_1 a0_2 a0_3 a0_4 a0_5 a0_6 a0_7 l0_8)) else (secateurlaw07_OpLacks.j1 kj2 (bt (⟨#[97, 98, 99, 67, 70, 77, 118]⟩ : ByteArray) (ji17)) false a0_0 a0_1 a0_2 a0_3 a0_4 a0_5 a0_6 a0_7 l0_8)))))) else (if (bt (⟨#[97, 98, 99, 67, 70, 77, 118]⟩ : ByteArray) (ji17)) = 70 then ((secateurref07_Has.f t339 77).bind fun t344 => (secateurlaw07_OpLacks.j1 kj2 (bt (⟨#[97, 98, 99, 67, 70, 77, 118]⟩ : ByteArray) (ji17)) t344 a0_0 a0_1 a0_2 a0_3 a0_4 a0_5 a0_6 a0_7 l0_8)) else (secateurlaw07_OpLacks.j1 kj2 (bt (⟨#[97, 98, 99, 67, 70, 77, 118]⟩ : ByteArray) (ji17)) false a0_0 a0_1 a0_2 a0_3 a0_4 a0_5 a0_6 a0_7 l0_8)))) = some r := H
              have A24 := Aside0.mk A240
              clear A240
              by_cases c25 : t340 = true
              · subst c25
                have H1 : (secateurlaw07_OpLacks.j1 kj2 (bt (⟨#[97, 98, 99, 67, 70, 77, 118]⟩ : ByteArray) (ji17)) true a0_0 a0_1 a0_2 a0_3 a0_4 a0_5 a0_6 a0_7 l0_8) = some r := by rw [if_pos rfl] at H; exact H
                clear H
                have H := H1
                clear H1
                have H' := Aside0.mk H
                clear H
                go_wp2_with (first | ((with_reducible refine gate_callee (f := 32) rfl ?_); refine goesL_ (some 28) rfl rfl Tryd.func32 (by kernel_rfl) rfl #[.string t339, .int .u8 (bt (⟨#[97, 98, 99, 67, 70, 77, 118]⟩ : ByteArray) (ji17))] rfl (by (try simp only [List.map_toArray, List.map_cons, List.map_nil]); first | done | (simp only [hji17]; rfl) | rfl | (simp only [List.length_drop, List.length_take]; rfl)) ?_; (with_reducible refine (secateurref07_Has.calls t339 (bt (⟨#[97, 98, 99, 67, 70, 77, 118]⟩ : ByteArray) (ji17)) true _ A24.out).mono ?_); rintro e w' ⟨rfl, ⟨nd, rfl⟩⟩; refine ⟨_, rfl, ?_⟩))
                go_meet
                case rel => exact ⟨_, (true), (by first | rfl | (simp; done) | (simp [*]; done) | (exfalso; simp only [beq_iff_eq] at *; omega)), H', ⟨by have := HJ2.out; first | omega | exact Nat.le_refl _⟩, ⟨by (with_reducible repeat (first | refine blk_drewN ?_ _ | refine blk_drew ?_ | refine blk_alloc ?_ _)); exact BK335.out⟩, ⟨by repeat (first | (with_reducible first | exact HB.out | apply below_alloc | apply pw_below_drewN | apply below_drew1 | refine below_set ?_ GE335.out) | exact HB.out)⟩⟩
              · replace c25 := Bool.eq_false_iff.mpr c25
                subst c25
                have H1 : (if (bt (⟨#[97, 98, 99, 67, 70, 77, 118]⟩ : ByteArray) (ji17)) = 67 then ((secateurref07_Has.f t339 70).bind fun t341 => (if t341 = true then (secateurlaw07_OpLacks.j1 kj2 (bt (⟨#[97, 98, 99, 67, 70, 77, 118]⟩ : ByteArray) (ji17)) true a0_0 a0_1 a0_2 a0_3 a0_4 a0_5 a0_6 a0_7 l0_8) else ((secateurref07_Has.f t339 77).bind fun t342 => (if t342 = true then (secateurlaw07_OpLacks.j1 kj2 (bt (⟨#[97, 98, 99, 67, 70, 77, 118]⟩ : ByteArray) (ji17)) true a0_0 a0_1 a0_2 a0_3 a0_4 a0_5 a0_6 a0_7 l0_8) else (if (bt (⟨#[97, 98, 99, 67, 70, 77, 118]⟩ : ByteArray) (ji17)) = 70 then ((secateurref07_Has.f t339 77).bind fun t343 => (secateurlaw07_OpLacks.j1 kj2 (bt (⟨#[97, 98, 99, 67, 70, 77, 118]⟩ : ByteArray) (ji17)) t343 a0_0 a0_1 a0_2 a0_3 a0_4 a0_5 a0_6 a0_7 l0_8)) else (secateurlaw07_OpLacks.j1 kj2 (bt (⟨#[97, 98, 99, 67, 70, 77, 118]⟩ : ByteArray) (ji17)) false a0_0 a0_1 a0_2 a0_3 a0_4 a0_5 a0_6 a0_7 l0_8)))))) else (if (bt (⟨#[97, 98, 99, 67, 70, 77, 118]⟩ : ByteArray) (ji17)) = 70 then ((secateurref07_Has.f t339 77).bind fun t344 => (secateurlaw07_OpLacks.j1 kj2 (bt (⟨#[97, 98, 99, 67, 70, 77, 118]⟩ : ByteArray) (ji17)) t344 a0_0 a0_1 a0_2 a0_3 a0_4 a0_5 a0_6 a0_7 l0_8)) else (secateurlaw07_OpLacks.j1 kj2 (bt (⟨#[97, 98, 99, 67, 70, 77, 118]⟩ : ByteArray) (ji17)) false a0_0 a0_1 a0_2 a0_3 a0_4 a0_5 a0_6 a0_7 l0_8))) = some r := by rw [if_neg (show ¬ (false = true) by decide)] at H; exact H
                clear H
                have H := H1
                clear H1
                by_cases c26 : (bt (⟨#[97, 98, 99, 67, 70, 77, 118]⟩ : ByteArray) (ji17)) = 67
                · rw [if_pos c26] at H
                  have c26b0 : ((bt (⟨#[97, 98, 99, 67, 70, 77, 118]⟩ : ByteArray) (ji17)) == 67) = true := beq_iff_eq.mpr c26
                  have c26b1 : ((bt (⟨#[97, 98, 99, 67, 70, 77, 118]⟩ : ByteArray) (ji17)) != 67) = false := bne_eq_false_iff_eq.mpr c26
                  clear c26
                  (first | rw [c26b0] | (simp only [i64_w, i32_w]; rw [c26b0]) | skip)
                  replace H := Option.bind_eq_some_iff.mp H
                  obtain ⟨t341, A270, H⟩ := H
                  replace H : (if t341 = true then (secateurlaw07_OpLacks.j1 kj2 (bt (⟨#[97, 98, 99, 67, 70, 77, 118]⟩ : ByteArray) (ji17)) true a0_0 a0_1 a0_2 a0_3 a0_4 a0_5 a0_6 a0_7 l0_8) else ((secateurref07_Has.f t339 77).bind fun t342 => (if t342 = true then (secateurlaw07_OpLacks.j1 kj2 (bt (⟨#[97, 98, 99, 67, 70, 77, 118]⟩ : ByteArray) (ji17)) true a0_0 a0_1 a0_2 a0_3 a0_4 a0_5 a0_6 a0_7 l0_8) else (if (bt (⟨#[97, 98, 99, 67, 70, 77, 118]⟩ : ByteArray) (ji17)) = 70 then ((secateurref07_Has.f t339 77).bind fun t343 => (secateurlaw07_OpLacks.j1 kj2 (bt (⟨#[97, 98, 99, 67, 70, 77, 118]⟩ : ByteArray) (ji17)) t343 a0_0 a0_1 a0_2 a0_3 a0_4 a0_5 a0_6 a0_7 l0_8)) else (secateurlaw07_OpLacks.j1 kj2 (bt (⟨#[97, 98, 99, 67, 70, 77, 118]⟩ : ByteArray) (ji17)) false a0_0 a0_1 a0_2 a0_3 a0_4 a0_5 a0_6 a0_7 l0_8))))) = some r := H
                  have A27 := Aside0.mk A270
                  clear A270
                  by_cases c28 : t341 = true
                  · subst c28
                    have H1 : (secateurlaw07_OpLacks.j1 kj2 (bt (⟨#[97, 98, 99, 67, 70, 77, 118]⟩ : ByteArray) (ji17)) true a0_0 a0_1 a0_2 a0_3 a0_4 a0_5 a0_6 a0_7 l0_8) = some r := by rw [if_pos rfl] at H; exact H
                    clear H
                    have H := H1
                    clear H1
                    have H' := Aside0.mk H
                    clear H
                    go_wp2_with (first | ((with_reducible refine gate_callee (f := 32) rfl ?_); refine goesL_ (some 28) rfl rfl Tryd.func32 (by kernel_rfl) rfl #[.string t339, .int .u8 (bt (⟨#[97, 98, 99, 67, 70, 77, 118]⟩ : ByteArray) (ji17))] rfl (by (try simp only [List.map_toArray, List.map_cons, List.map_nil]); first | done | (simp only [hji17]; rfl) | rfl | (simp only [List.length_drop, List.length_take]; rfl)) ?_; (with_reducible refine (secateurref07_Has.calls t339 (bt (⟨#[97, 98, 99, 67, 70, 77, 118]⟩ : ByteArray) (ji17)) false _ A24.out).mono ?_); rintro e w' ⟨rfl, ⟨nd, rfl⟩⟩; refine ⟨_, rfl, ?_⟩) | (go_at_call 32; (with_reducible refine (secateurref07_Has.calls t339 70 true _ A27.out).mono ?_); rintro e w' ⟨rfl, ⟨nd, rfl⟩⟩))
                    go_meet
                    case rel => exact ⟨_, (true), (by first | rfl | (simp; done) | (simp [*]; done) | (exfalso; simp only [beq_iff_eq] at *; omega)), H', ⟨by have := HJ2.out; first | omega | exact Nat.le_refl _⟩, ⟨by (with_reducible repeat (first | refine blk_drewN ?_ _ | refine blk_drew ?_ | refine blk_alloc ?_ _)); exact BK335.out⟩, ⟨by repeat (first | (with_reducible first | exact HB.out | apply below_alloc | apply pw_below_drewN | apply below_drew1 | refine below_set ?_ GE335.out) | exact HB.out)⟩⟩
                  · replace c28 := Bool.eq_false_iff.mpr c28
                    subst c28
                    have H1 : ((secateurref07_Has.f t339 77).bind fun t342 => (if t342 = true then (secateurlaw07_OpLacks.j1 kj2 (bt (⟨#[97, 98, 99, 67, 70, 77, 118]⟩ : ByteArray) (ji17)) true a0_0 a0_1 a0_2 a0_3 a0_4 a0_5 a0_6 a0_7 l0_8) else (if (bt (⟨#[97, 98, 99, 67, 70, 77, 118]⟩ : ByteArray) (ji17)) = 70 then ((secateurref07_Has.f t339 77).bind fun t343 => (secateurlaw07_OpLacks.j1 kj2 (bt (⟨#[97, 98, 99, 67, 70, 77, 118]⟩ : ByteArray) (ji17)) t343 a0_0 a0_1 a0_2 a0_3 a0_4 a0_5 a0_6 a0_7 l0_8)) else (secateurlaw07_OpLacks.j1 kj2 (bt (⟨#[97, 98, 99, 67, 70, 77, 118]⟩ : ByteArray) (ji17)) false a0_0 a0_1 a0_2 a0_3 a0_4 a0_5 a0_6 a0_7 l0_8)))) = some r := by rw [if_neg (show ¬ (false = true) by decide)] at H; exact H
                    clear H
                    have H := H1
                    clear H1
                    replace H := Option.bind_eq_some_iff.mp H
                    obtain ⟨t342, A290, H⟩ := H
                    replace H : (if t342 = true then (secateurlaw07_OpLacks.j1 kj2 (bt (⟨#[97, 98, 99, 67, 70, 77, 118]⟩ : ByteArray) (ji17)) true a0_0 a0_1 a0_2 a0_3 a0_4 a0_5 a0_6 a0_7 l0_8) else (if (bt (⟨#[97, 98, 99, 67, 70, 77, 118]⟩ : ByteArray) (ji17)) = 70 then ((secateurref07_Has.f t339 77).bind fun t343 => (secateurlaw07_OpLacks.j1 kj2 (bt (⟨#[97, 98, 99, 67, 70, 77, 118]⟩ : ByteArray) (ji17)) t343 a0_0 a0_1 a0_2 a0_3 a0_4 a0_5 a0_6 a0_7 l0_8)) else (secateurlaw07_OpLacks.j1 kj2 (bt (⟨#[97, 98, 99, 67, 70, 77, 118]⟩ : ByteArray) (ji17)) false a0_0 a0_1 a0_2 a0_3 a0_4 a0_5 a0_6 a0_7 l0_8))) = some r := H
                    have A29 := Aside0.mk A290
                    clear A290
                    by_cases c30 : t342 = true
                    · subst c30
                      have H1 : (secateurlaw07_OpLacks.j1 kj2 (bt (⟨#[97, 98, 99, 67, 70, 77, 118]⟩ : ByteArray) (ji17)) true a0_0 a0_1 a0_2 a0_3 a0_4 a0_5 a0_6 a0_7 l0_8) = some r := by rw [if_pos rfl] at H; exact H
                      clear H
                      have H := H1
                      clear H1
                      have H' := Aside0.mk H
                      clear H
                      go_wp2_with (first | ((with_reducible refine gate_callee (f := 32) rfl ?_); refine goesL_ (some 28) rfl rfl Tryd.func32 (by kernel_rfl) rfl #[.string t339, .int .u8 (bt (⟨#[97, 98, 99, 67, 70, 77, 118]⟩ : ByteArray) (ji17))] rfl (by (try simp only [List.map_toArray, List.map_cons, List.map_nil]); first | done | (simp only [hji17]; rfl) | rfl | (simp only [List.length_drop, List.length_take]; rfl)) ?_; (with_reducible refine (secateurref07_Has.calls t339 (bt (⟨#[97, 98, 99, 67, 70, 77, 118]⟩ : ByteArray) (ji17)) false _ A24.out).mono ?_); rintro e w' ⟨rfl, ⟨nd, rfl⟩⟩; refine ⟨_, rfl, ?_⟩) | (go_at_call 32; (with_reducible refine (secateurref07_Has.calls t339 70 false _ A27.out).mono ?_); rintro e w' ⟨rfl, ⟨nd, rfl⟩⟩) | (go_at_call 32; (with_reducible refine (secateurref07_Has.calls t339 77 true _ A29.out).mono ?_); rintro e w' ⟨rfl, ⟨nd, rfl⟩⟩))
                      go_meet
                      case rel => exact ⟨_, (true), (by first | rfl | (simp; done) | (simp [*]; done) | (exfalso; simp only [beq_iff_eq] at *; omega)), H', ⟨by have := HJ2.out; first | omega | exact Nat.le_refl _⟩, ⟨by (with_reducible repeat (first | refine blk_drewN ?_ _ | refine blk_drew ?_ | refine blk_alloc ?_ _)); exact BK335.out⟩, ⟨by repeat (first | (with_reducible first | exact HB.out | apply below_alloc | apply pw_below_drewN | apply below_drew1 | refine below_set ?_ GE335.out) | exact HB.out)⟩⟩
                    · replace c30 := Bool.eq_false_iff.mpr c30
                      subst c30
                      have H1 : (if (bt (⟨#[97, 98, 99, 67, 70, 77, 118]⟩ : ByteArray) (ji17)) = 70 then ((secateurref07_Has.f t339 77).bind fun t343 => (secateurlaw07_OpLacks.j1 kj2 (bt (⟨#[97, 98, 99, 67, 70, 77, 118]⟩ : ByteArray) (ji17)) t343 a0_0 a0_1 a0_2 a0_3 a0_4 a0_5 a0_6 a0_7 l0_8)) else (secateurlaw07_OpLacks.j1 kj2 (bt (⟨#[97, 98, 99, 67, 70, 77, 118]⟩ : ByteArray) (ji17)) false a0_0 a0_1 a0_2 a0_3 a0_4 a0_5 a0_6 a0_7 l0_8)) = some r := by rw [if_neg (show ¬ (false = true) by decide)] at H; exact H
                      clear H
                      have H := H1
                      clear H1
                      by_cases c31 : (bt (⟨#[97, 98, 99, 67, 70, 77, 118]⟩ : ByteArray) (ji17)) = 70
                      · rw [if_pos c31] at H
                        have c31b0 : ((bt (⟨#[97, 98, 99, 67, 70, 77, 118]⟩ : ByteArray) (ji17)) == 70) = true := beq_iff_eq.mpr c31
                        have c31b1 : ((bt (⟨#[97, 98, 99, 67, 70, 77, 118]⟩ : ByteArray) (ji17)) != 70) = false := bne_eq_false_iff_eq.mpr c31
                        clear c31
                        replace H := Option.bind_eq_some_iff.mp H
                        obtain ⟨t343, A320, H⟩ := H
                        replace H : (secateurlaw07_OpLacks.j1 kj2 (bt (⟨#[97, 98, 99, 67, 70, 77, 118]⟩ : ByteArray) (ji17)) t343 a0_0 a0_1 a0_2 a0_3 a0_4 a0_5 a0_6 a0_7 l0_8) = some r := H
                        have A32 := Aside0.mk A320
                        clear A320
                        have H' := Aside0.mk H
                        clear H
                        go_wp2_with (first | ((with_reducible refine gate_callee (f := 32) rfl ?_); refine goesL_ (some 28) rfl rfl Tryd.func32 (by kernel_rfl) rfl #[.string t339, .int .u8 (bt (⟨#[97, 98, 99, 67, 70, 77, 118]⟩ : ByteArray) (ji17))] rfl (by (try simp only [List.map_toArray, List.map_cons, List.map_nil]); first | done | (simp only [hji17]; rfl) | rfl | (simp only [List.length_drop, List.length_take]; rfl)) ?_; (with_reducible refine (secateurref07_Has.calls t339 (bt (⟨#[97, 98, 99, 67, 70, 77, 118]⟩ : ByteArray) (ji17)) false _ A24.out).mono ?_); rintro e w' ⟨rfl, ⟨nd, rfl⟩⟩; refine ⟨_, rfl, ?_⟩) | (go_at_call 32; (with_reducible refine (secateurref07_Has.calls t339 70 false _ A27.out).mono ?_); rintro e w' ⟨rfl, ⟨nd, rfl⟩⟩) | (go_at_call 32; (with_reducible refine (secateurref07_Has.calls t339 77 false _ A29.out).mono ?_); rintro e w' ⟨rfl, ⟨nd, rfl⟩⟩) | (go_at_call 32; (with_reducible refine (secateurref07_Has.calls t339 77 t343 _ A32.out).mono ?_); rintro e w' ⟨rfl, ⟨nd, rfl⟩⟩))
                        go_meet
                        case rel => exact ⟨_, (t343), (by first | rfl | (simp; done) | (simp [*]; done) | (exfalso; simp only [beq_iff_eq] at *; omega)), H', ⟨by have := HJ2.out; first | omega | exact Nat.le_refl _⟩, ⟨by (with_reducible repeat (first | refine blk_drewN ?_ _ | refine blk_drew ?_ | refine blk_alloc ?_ _)); exact BK335.out⟩, ⟨by repeat (first | (with_reducible first | exact HB.out | apply below_alloc | apply pw_below_drewN | apply below_drew1 | refine below_set ?_ GE335.out) | exact HB.out)⟩⟩
                      · rw [if_neg c31] at H
                        have c31b0 : ((bt (⟨#[97, 98, 99, 67, 70, 77, 118]⟩ : ByteArray) (ji17)) == 70) = false := beq_eq_false_iff_ne.mpr c31
                        have c31b1 : ((bt (⟨#[97, 98, 99, 67, 70, 77, 118]⟩ : ByteArray) (ji17)) != 70) = true := bne_iff_ne.mpr c31
                        have H' := Aside0.mk H
                        clear H
                        go_wp2_with (first | ((with_reducible refine gate_callee (f := 32) rfl ?_); refine goesL_ (some 28) rfl rfl Tryd.func32 (by kernel_rfl) rfl #[.string t339, .int .u8 (bt (⟨#[97, 98, 99, 67, 70, 77, 118]⟩ : ByteArray) (ji17))] rfl (by (try simp only [List.map_toArray, List.map_cons, List.map_nil]); first | done | (simp only [hji17]; rfl) | rfl | (simp only [List.length_drop, List.length_take]; rfl)) ?_; (with_reducible refine (secateurref07_Has.calls t339 (bt (⟨#[97, 98, 99, 67, 70, 77, 118]⟩ : ByteArray) (ji17)) false _ A24.out).mono ?_); rintro e w' ⟨rfl, ⟨nd, rfl⟩⟩; refine ⟨_, rfl, ?_⟩) | (go_at_call 32; (with_reducible refine (secateurref07_Has.calls t339 70 false _ A27.out).mono ?_); rintro e w' ⟨rfl, ⟨nd, rfl⟩⟩) | (go_at_call 32; (with_reducible refine (secateurref07_Has.calls t339 77 false _ A29.out).mono ?_); rintro e w' ⟨rfl, ⟨nd, rfl⟩⟩))
                        go_meet
                        case rel => exact ⟨_, (false), (by first | rfl | (simp; done) | (simp [*]; done) | (exfalso; simp only [beq_iff_eq] at *; omega)), H', ⟨by have := HJ2.out; first | omega | exact Nat.le_refl _⟩, ⟨by (with_reducible repeat (first | refine blk_drewN ?_ _ | refine blk_drew ?_ | refine blk_alloc ?_ _)); exact BK335.out⟩, ⟨by repeat (first | (with_reducible first | exact HB.out | apply below_alloc | apply pw_below_drewN | apply below_drew1 | refine below_set ?_ GE335.out) | exact HB.out)⟩⟩
                · rw [if_neg c26] at H
                  have c26b0 : ((bt (⟨#[97, 98, 99, 67, 70, 77, 118]⟩ : ByteArray) (ji17)) == 67) = false := beq_eq_false_iff_ne.mpr c26
                  have c26b1 : ((bt (⟨#[97, 98, 99, 67, 70, 77, 118]⟩ : ByteArray) (ji17)) != 67) = true := bne_iff_ne.mpr c26
                  (first | rw [c26b0] | (simp only [i64_w, i32_w]; rw [c26b0]) | skip)
                  by_cases c33 : (bt (⟨#[97, 98, 99, 67, 70, 77, 118]⟩ : ByteArray) (ji17)) = 70
                  · rw [if_pos c33] at H
                    have c33b0 : ((bt (⟨#[97, 98, 99, 67, 70, 77, 118]⟩ : ByteArray) (ji17)) == 70) = true := beq_iff_eq.mpr c33
                    have c33b1 : ((bt (⟨#[97, 98, 99, 67, 70, 77, 118]⟩ : ByteArray) (ji17)) != 70) = false := bne_eq_false_iff_eq.mpr c33
                    clear c33
                    replace H := Option.bind_eq_some_iff.mp H
                    obtain ⟨t344, A340, H⟩ := H
                    replace H : (secateurlaw07_OpLacks.j1 kj2 (bt (⟨#[97, 98, 99, 67, 70, 77, 118]⟩ : ByteArray) (ji17)) t344 a0_0 a0_1 a0_2 a0_3 a0_4 a0_5 a0_6 a0_7 l0_8) = some r := H
                    have A34 := Aside0.mk A340
                    clear A340
                    have H' := Aside0.mk H
                    clear H
                    go_wp2_with (first | ((with_reducible refine gate_callee (f := 32) rfl ?_); refine goesL_ (some 28) rfl rfl Tryd.func32 (by kernel_rfl) rfl #[.string t339, .int .u8 (bt (⟨#[97, 98, 99, 67, 70, 77, 118]⟩ : ByteArray) (ji17))] rfl (by (try simp only [List.map_toArray, List.map_cons, List.map_nil]); first | done | (simp only [hji17]; rfl) | rfl | (simp only [List.length_drop, List.length_take]; rfl)) ?_; (with_reducible refine (secateurref07_Has.calls t339 (bt (⟨#[97, 98, 99, 67, 70, 77, 118]⟩ : ByteArray) (ji17)) false _ A24.out).mono ?_); rintro e w' ⟨rfl, ⟨nd, rfl⟩⟩; refine ⟨_, rfl, ?_⟩) | (go_at_call 32; (with_reducible refine (secateurref07_Has.calls t339 77 t344 _ A34.out).mono ?_); rintro e w' ⟨rfl, ⟨nd, rfl⟩⟩))
                    go_meet
                    case rel => exact ⟨_, (t344), (by first | rfl | (simp; done) | (simp [*]; done) | (exfalso; simp only [beq_iff_eq] at *; omega)), H', ⟨by have := HJ2.out; first | omega | exact Nat.le_refl _⟩, ⟨by (with_reducible repeat (first | refine blk_drewN ?_ _ | refine blk_drew ?_ | refine blk_alloc ?_ _)); exact BK335.out⟩, ⟨by repeat (first | (with_reducible first | exact HB.out | apply below_alloc | apply pw_below_drewN | apply below_drew1 | refine below_set ?_ GE335.out) | exact HB.out)⟩⟩
                  · rw [if_neg c33] at H
                    have c33b0 : ((bt (⟨#[97, 98, 99, 67, 70, 77, 118]⟩ : ByteArray) (ji17)) == 70) = false := beq_eq_false_iff_ne.mpr c33
                    have c33b1 : ((bt (⟨#[97, 98, 99, 67, 70, 77, 118]⟩ : ByteArray) (ji17)) != 70) = true := bne_iff_ne.mpr c33
                    have H' := Aside0.mk H
                    clear H
                    go_wp2_with (first | ((with_reducible refine gate_callee (f := 32) rfl ?_); refine goesL_ (some 28) rfl rfl Tryd.func32 (by kernel_rfl) rfl #[.string t339, .int .u8 (bt (⟨#[97, 98, 99, 67, 70, 77, 118]⟩ : ByteArray) (ji17))] rfl (by (try simp only [List.map_toArray, List.map_cons, List.map_nil]); first | done | (simp only [hji17]; rfl) | rfl | (simp only [List.length_drop, List.length_take]; rfl)) ?_; (with_reducible refine (secateurref07_Has.calls t339 (bt (⟨#[97, 98, 99, 67, 70, 77, 118]⟩ : ByteArray) (ji17)) false _ A24.out).mono ?_); rintro e w' ⟨rfl, ⟨nd, rfl⟩⟩; refine ⟨_, rfl, ?_⟩))
                    go_meet
                    case rel => exact ⟨_, (false), (by first | rfl | (simp; done) | (simp [*]; done) | (exfalso; simp only [beq_iff_eq] at *; omega)), H', ⟨by have := HJ2.out; first | omega | exact Nat.le_refl _⟩, ⟨by (with_reducible repeat (first | refine blk_drewN ?_ _ | refine blk_drew ?_ | refine blk_alloc ?_ _)); exact BK335.out⟩, ⟨by repeat (first | (with_reducible first | exact HB.out | apply below_alloc | apply pw_below_drewN | apply below_drew1 | refine below_set ?_ GE335.out) | exact HB.out)⟩⟩
            case rest =>
              clear HC22
              try clear c1
              try clear c2
              try clear p2
              try clear q2
              try clear hx2
              try clear c3
              try clear c6
              try clear p6
              try clear c8
              try clear c10
              try clear c14
              try clear c16
              try clear c18
              try clear c18b0
              try clear c19
              try clear c19b0
              try clear p20
              try clear q20
              try clear hx20
              try clear c22
              try clear c25
              try clear c26
              try clear c26b0
              try clear c26b1
              try clear c28
              try clear c30
              try clear c31
              try clear c31b0
              try clear c31b1
              try clear c32
              try clear c33
              try clear c33b0
              try clear c33b1
              try clear hcz10_0
              try clear hcz10_1
              try clear hcz10_2
              try clear hcz10_3
              try clear hcz10_4
              try clear hcz10_5
              try clear hcz10_6
              try clear hcz10_7
              try clear hcz10_8
              try clear hcz12_0
              try clear hcz12_1
              try clear hcz12_2
              try clear hcz12_3
              try clear hcz12_4
              try clear hcz12_5
              try clear hcz12_6
              try clear hcz12_7
              try clear hcz12_8
              try clear hcz23_0
              try clear hcz23_1
              try clear hcz23_2
              try clear hcz23_3
              try clear hcz23_4
              try clear hcz23_5
              try clear hcz23_6
              try clear hcz23_7
              try clear hcz23_8
              try clear hcz7_0
              try clear hcz7_1
              try clear hcz7_2
              try clear hcz7_3
              try clear hcz7_4
              try clear hcz7_5
              try clear hcz7_6
              try clear hcz7_7
              try clear hcz7_8
              try clear hfz10_0
              try clear hfz10_1
              try clear hfz10_2
              try clear hfz10_3
              try clear hfz10_4
              try clear hfz10_5
              try clear hfz10_6
              try clear hfz10_7
              try clear hfz10_8
              try clear hfz12_0
              try clear hfz12_1
              try clear hfz12_2
              try clear hfz12_3
              try clear hfz12_4
              try clear hfz12_5
              try clear hfz12_6
              try clear hfz12_7
              try clear hfz12_8
              try clear hfz23_0
              try clear hfz23_1
              try clear hfz23_2
              try clear hfz23_3
              try clear hfz23_4
              try clear hfz23_5
              try clear hfz23_6
              try clear hfz23_7
              try clear hfz23_8
              try clear hfz7_0
              try clear hfz7_1
              try clear hfz7_2
              try clear hfz7_3
              try clear hfz7_4
              try clear hfz7_5
              try clear hfz7_6
              try clear hfz7_7
              try clear hfz7_8
              try clear p2
              try clear p20
              try clear q20
              obtain ⟨kq, x48_21, rfl, HA, HJ21, BK335, HB⟩ := hcut
              cases kq with
              | zero => exact absurd HA.out (by simp [secateurlaw07_OpLacks.j1])
              | succ kj21 =>
                have H := HA.out
                clear HA
                simp only [secateurlaw07_OpLacks.j1] at H
                by_cases c35 : x48_21 = true
                · subst c35
                  have H1 : ((secateurlaw07_live.f kj21).bind fun t345 => (some t345)) = some r := by rw [if_pos rfl] at H; exact H
                  clear H
                  have H := H1
                  clear H1
                  replace H := Option.bind_eq_some_iff.mp H
                  obtain ⟨t345, A360, H⟩ := H
                  replace H : (some t345) = some r := H
                  have A36 := Aside0.mk A360
                  clear A360
                  obtain rfl := Option.some.inj H
                  simp only [Option.some.injEq, Prod.mk.injEq] at H
                  obtain ⟨rfl⟩ := H
                  go_wp2_with (first | ((with_reducible refine gate_callee (f := 16) rfl ?_); refine goesL_ (some 49) rfl rfl Tryd.func16 (by kernel_rfl) rfl #[] rfl (by (try simp only [List.map_toArray, List.map_cons, List.map_nil]); first | done | rfl | (simp only [List.length_drop, List.length_take]; rfl)) ?_; (with_reducible refine (secateurlaw07_live.calls kj21  t345 _ ?side1 A36.out).mono ?_); (case side1 => repeat (first | exact (GW.below HG.out HB.out) | (with_reducible refine GW.alloc ?_ _) | (with_reducible refine GW.drewN ?_ _) | (with_reducible refine GW.drew ?_))); rintro e w37 ⟨rfl, hb⟩; refine ⟨_, rfl, ?_⟩; have n0_ := Aside0.mk (blk_below (g := gb335) (o := .cells #[.int .i64 a0_0, .int .i64 a0_1, .int .i64 a0_2, .int .i64 a0_3, .int .i64 a0_4, .string a0_5, .string a0_6, .string a0_7, .slice A0_8 l0_8.length c0_8] 44 (0, 0)) (by (with_reducible repeat (first | refine blk_drewN ?_ _ | refine blk_drew ?_ | refine blk_alloc ?_ _)); exact BK335.out) hb); have n1_ := Aside0.mk (below_step (by repeat (first | (with_reducible first | exact HB.out | apply below_alloc | apply pw_below_drewN | apply below_drew1 | refine below_set ?_ GE335.out) | exact HB.out)) hb); clear BK335; clear HB; have BK335 := n0_; have HB := n1_; clear n0_ n1_; (try clear hb); (try clear hb2); (try clear hk); (try clear hi)))
                  go_ret
                  exact ⟨by first | rfl | (simp [errW_none, errW_some] <;> rfl) | (simp only [← hji17]; first | rfl | (simp [errW_none, errW_some] <;> rfl)) | (simp [*, errW_none, errW_some] <;> rfl), by repeat (first | (with_reducible first | exact HB.out | apply below_alloc | apply pw_below_drewN | apply below_drew1 | refine below_set ?_ GE335.out) | exact HB.out)⟩
                · replace c35 := Bool.eq_false_iff.mpr c35
                  subst c35
                  have H1 : (if (bt (⟨#[97, 98, 99, 67, 70, 77, 118]⟩ : ByteArray) (ji17)) = 97 then ((secateurlaw07_live.f kj21).bind fun t346 => (if t346 = true then ((op_Fits.f a0_0 1 a0_2 a0_3 a0_4 a0_5 a0_6 a0_7 l0_8 32 256).bind fun t347 => (some (t347 == 1))) else (some false))) else (if (bt (⟨#[97, 98, 99, 67, 70, 77, 118]⟩ : ByteArray) (ji17)) = 98 then ((secateurlaw07_live.f kj21).bind fun t348 => (if t348 = true then ((op_Fits.f a0_0 a0_1 1 a0_3 a0_4 a0_5 a0_6 a0_7 l0_8 32 256).bind fun t349 => (some (t349 == 1))) else (some false))) else (if (bt (⟨#[97, 98, 99, 67, 70, 77, 118]⟩ : ByteArray) (ji17)) = 99 then ((secateurlaw07_live.f kj21).bind fun t350 => (if t350 = true then ((op_Fits.f a0_0 a0_1 a0_2 1 a0_4 a0_5 a0_6 a0_7 l0_8 32 256).bind fun t351 => (some (t351 == 1))) else (some false))) else (if (bt (⟨#[97, 98, 99, 67, 70, 77, 118]⟩ : ByteArray) (ji17)) = 67 then ((secateurlaw07_live.f kj21).bind fun t352 => (if t352 = true then ((op_Fits.f a0_0 a0_1 a0_2 a0_3 a0_4 (⟨#[65]⟩ : ByteArray) a0_6 a0_7 l0_8 32 256).bind fun t353 => (some (t353 == 1))) else (some false))) else (if (bt (⟨#[97, 98, 99, 67, 70, 77, 118]⟩ : ByteArray) (ji17)) = 70 then ((secateurlaw07_live.f kj21).bind fun t354 => (if t354 = true then ((op_Fits.f a0_0 a0_1 a0_2 a0_3 a0_4 a0_5 (⟨#[102]⟩ : ByteArray) a0_7 l0_8 32 256).bind fun t355 => (some (t355 == 1))) else (some false))) else (if (bt (⟨#[97, 98, 99, 67, 70, 77, 118]⟩ : ByteArray) (ji17)) = 77 then ((secateurlaw07_live.f kj21).bind fun t356 => (if t356 = true then ((op_Fits.f a0_0 a0_1 a0_2 a0_3 a0_4 a0_5 a0_6 (⟨#[40, 41, 86]⟩ : ByteArray) l0_8 32 256).bind fun t357 => (some (t357 == 1))) else (some false))) else ((secateurlaw07_live.f kj21).bind fun t361 => (if t361 = true then ((op_Fits.f a0_0 a0_1 a0_2 a0_3 a0_4 a0_5 a0_6 a0_7 (([1] : List Int)) 32 256).bind fun t362 => (some (t362 == 1))) else (some false))))))))) = some r := by rw [if_neg (show ¬ (false = true) by decide)] at H; exact H
                  clear H
                  have H := H1
                  clear H1
                  by_cases c38 : (bt (⟨#[97, 98, 99, 67, 70, 77, 118]⟩ : ByteArray) (ji17)) = 97
                  · rw [if_pos c38] at H
                    have c38b0 : ((bt (⟨#[97, 98, 99, 67, 70, 77, 118]⟩ : ByteArray) (ji17)) == 97) = true := beq_iff_eq.mpr c38
                    have c38b1 : ((bt (⟨#[97, 98, 99, 67, 70, 77, 118]⟩ : ByteArray) (ji17)) != 97) = false := bne_eq_false_iff_eq.mpr c38
                    clear c38
                    replace H := Option.bind_eq_some_iff.mp H
                    obtain ⟨t346, A390, H⟩ := H
                    replace H : (if t346 = true then ((op_Fits.f a0_0 1 a0_2 a0_3 a0_4 a0_5 a0_6 a0_7 l0_8 32 256).bind fun t347 => (some (t347 == 1))) else (some false)) = some r := H
                    have A39 := Aside0.mk A390
                    clear A390
                    by_cases c40 : t346 = true
                    · subst c40
                      have H1 : ((op_Fits.f a0_0 1 a0_2 a0_3 a0_4 a0_5 a0_6 a0_7 l0_8 32 256).bind fun t347 => (some (t347 == 1))) = some r := by rw [if_pos rfl] at H; exact H
                      clear H
                      have H := H1
                      clear H1
                      replace H := Option.bind_eq_some_iff.mp H
                      obtain ⟨t347, A410, H⟩ := H
                      replace H : (some (t347 == 1)) = some r := H
                      have A41 := Aside0.mk A410
                      clear A410
                      obtain rfl := Option.some.inj H
                      simp only [Option.some.injEq, Prod.mk.injEq] at H
                      obtain ⟨rfl⟩ := H
                      have hcz42_0 : wc.cell? ⟨gb335, 0, none⟩ = some (.int .i64 a0_0) := (blk_cell BK335.out 0).trans rfl
                      have hcz42_1 : wc.cell? ⟨gb335, 1, none⟩ = some (.int .i64 a0_1) := (blk_cell BK335.out 1).trans rfl
                      have hcz42_2 : wc.cell? ⟨gb335, 2, none⟩ = some (.int .i64 a0_2) := (blk_cell BK335.out 2).trans rfl
                      have hcz42_3 : wc.cell? ⟨gb335, 3, none⟩ = some (.int .i64 a0_3) := (blk_cell BK335.out 3).trans rfl
                      have hcz42_4 : wc.cell? ⟨gb335, 4, none⟩ = some (.int .i64 a0_4) := (blk_cell BK335.out 4).trans rfl
                      have hcz42_5 : wc.cell? ⟨gb335, 5, none⟩ = some (.string a0_5) := (blk_cell BK335.out 5).trans rfl
                      have hcz42_6 : wc.cell? ⟨gb335, 6, none⟩ = some (.string a0_6) := (blk_cell BK335.out 6).trans rfl
                      have hcz42_7 : wc.cell? ⟨gb335, 7, none⟩ = some (.string a0_7) := (blk_cell BK335.out 7).trans rfl
                      have hcz42_8 : wc.cell? ⟨gb335, 8, none⟩ = some (.slice A0_8 l0_8.length c0_8) := (blk_cell BK335.out 8).trans rfl
                      have hfz42_0 := blk_frozen BK335.out 0
                      have hfz42_1 := blk_frozen BK335.out 1
                      have hfz42_2 := blk_frozen BK335.out 2
                      have hfz42_3 := blk_frozen BK335.out 3
                      have hfz42_4 := blk_frozen BK335.out 4
                      have hfz42_5 := blk_frozen BK335.out 5
                      have hfz42_6 := blk_frozen BK335.out 6
                      have hfz42_7 := blk_frozen BK335.out 7
                      have hfz42_8 := blk_frozen BK335.out 8
                      go_wp2_with (first | ((with_reducible refine gate_callee (f := 16) rfl ?_); refine goesL_ (some 71) rfl rfl Tryd.func16 (by kernel_rfl) rfl #[] rfl (by (try simp only [List.map_toArray, List.map_cons, List.map_nil]); first | done | rfl | (simp only [List.length_drop, List.length_take]; rfl)) ?_; (with_reducible refine (secateurlaw07_live.calls kj21  true _ ?side1 A39.out).mono ?_); (case side1 => exact GW.below HG.out (by repeat (first | (with_reducible first | exact HB.out | apply below_alloc | apply pw_below_drewN | apply below_drew1 | refine below_set ?_ GE335.out) | exact HB.out))); rintro e w43 ⟨rfl, hb⟩; refine ⟨_, rfl, ?_⟩; have n0_ := Aside0.mk (blk_below (g := gb335) (o := .cells #[.int .i64 a0_0, .int .i64 1, .int .i64 a0_2, .int .i64 a0_3, .int .i64 a0_4, .string a0_5, .string a0_6, .string a0_7, .slice A0_8 l0_8.length c0_8] 44 (0, 0)) (by (with_reducible repeat (first | refine blk_drewN ?_ _ | refine blk_drew ?_ | refine blk_alloc ?_ _)); refine blk_put (cs := #[.int .i64 a0_0, .int .i64 a0_1, .int .i64 a0_2, .int .i64 a0_3, .int .i64 a0_4, .string a0_5, .string a0_6, .string a0_7, .slice A0_8 l0_8.length c0_8]) ?_ 1 _ rfl; (with_reducible repeat (first | refine blk_drewN ?_ _ | refine blk_drew ?_ | refine blk_alloc ?_ _)); exact BK335.out) hb); have n1_ := Aside0.mk (below_step (by repeat (first | (with_reducible first | exact HB.out | apply below_alloc | apply pw_below_drewN | apply below_drew1 | refine below_set ?_ GE335.out) | exact HB.out)) hb); clear BK335; clear HB; have BK335 := n0_; have HB := n1_; clear n0_ n1_; (try clear hb); (try clear hb2); (try clear hk); (try clear hi); have hcz44_0 : w43.cell? ⟨gb335, 0, none⟩ = some (.int .i64 a0_0) := (blk_cell BK335.out 0).trans rfl; have hcz44_1 : w43.cell? ⟨gb335, 1, none⟩ = some (.int .i64 1) := (blk_cell BK335.out 1).trans rfl; have hcz44_2 : w43.cell? ⟨gb335, 2, none⟩ = some (.int .i64 a0_2) := (blk_cell BK335.out 2).trans rfl; have hcz44_3 : w43.cell? ⟨gb335, 3, none⟩ = some (.int .i64 a0_3) := (blk_cell BK335.out 3).trans rfl; have hcz44_4 : w43.cell? ⟨gb335, 4, none⟩ = some (.int .i64 a0_4) := (blk_cell BK335.out 4).trans rfl; have hcz44_5 : w43.cell? ⟨gb335, 5, none⟩ = some (.string a0_5) := (blk_cell BK335.out 5).trans rfl; have hcz44_6 : w43.cell? ⟨gb335, 6, none⟩ = some (.string a0_6) := (blk_cell BK335.out 6).trans rfl; have hcz44_7 : w43.cell? ⟨gb335, 7, none⟩ = some (.string a0_7) := (blk_cell BK335.out 7).trans rfl; have hcz44_8 : w43.cell? ⟨gb335, 8, none⟩ = some (.slice A0_8 l0_8.length c0_8) := (blk_cell BK335.out 8).trans rfl; have hfz44_0 := blk_frozen BK335.out 0; have hfz44_1 := blk_frozen BK335.out 1; have hfz44_2 := blk_frozen BK335.out 2; have hfz44_3 := blk_frozen BK335.out 3; have hfz44_4 := blk_frozen BK335.out 4; have hfz44_5 := blk_frozen BK335.out 5; have hfz44_6 := blk_frozen BK335.out 6; have hfz44_7 := blk_frozen BK335.out 7; have hfz44_8 := blk_frozen BK335.out 8) | (go_at_call 23; (with_reducible refine (op_Fits.calls a0_0 1 a0_2 a0_3 a0_4 a0_5 a0_6 a0_7 _ _ l0_8 32 256 t347 _ ?side3 ?side1 ?side2 A41.out).mono ?_); (case side1 => repeat (first | exact (Kd.C_below HR0_8.out HB.out) | (with_reducible refine Kd.C_alloc ?_ _) | (with_reducible refine Kd.C_drewN ?_ _) | (with_reducible refine Kd.C_drew ?_))); (case side2 => exact HC0_8.out); (case side3 => repeat (first | exact (GW.below HG.out HB.out) | (with_reducible refine GW.alloc ?_ _) | (with_reducible refine GW.drewN ?_ _) | (with_reducible refine GW.drew ?_))); rintro e w45 ⟨rfl, hb⟩; have n0_ := Aside0.mk (blk_below (g := gb335) (o := .cells #[.int .i64 a0_0, .int .i64 1, .int .i64 a0_2, .int .i64 a0_3, .int .i64 a0_4, .string a0_5, .string a0_6, .string a0_7, .slice A0_8 l0_8.length c0_8] 44 (0, 0)) (by (with_reducible repeat (first | refine blk_drewN ?_ _ | refine blk_drew ?_ | refine blk_alloc ?_ _)); exact BK335.out) hb); have n1_ := Aside0.mk (below_step (by repeat (first | (with_reducible first | exact HB.out | apply below_alloc | apply pw_below_drewN | apply below_drew1 | refine below_set ?_ GE335.out) | exact HB.out)) hb); clear BK335; clear HB; have BK335 := n0_; have HB := n1_; clear n0_ n1_; (try clear hb); (try clear hb2); (try clear hk); (try clear hi)))
                      go_ret
                      exact ⟨by first | rfl | (simp [errW_none, errW_some] <;> rfl) | (simp only [← hji17]; first | rfl | (simp [errW_none, errW_some] <;> rfl)) | (simp [*, errW_none, errW_some] <;> rfl), by repeat (first | (with_reducible first | exact HB.out | apply below_alloc | apply pw_below_drewN | apply below_drew1 | refine below_set ?_ GE335.out) | exact HB.out)⟩
                    · replace c40 := Bool.eq_false_iff.mpr c40
                      subst c40
                      have H1 : (some false) = some r := by rw [if_neg (show ¬ (false = true) by decide)] at H; exact H
                      clear H
                      have H := H1
                      clear H1
                      obtain rfl := Option.some.inj H
                      cases HRT.out
                  · rw [if_neg c38] at H
                    have c38b0 : ((bt (⟨#[97, 98, 99, 67, 70, 77, 118]⟩ : ByteArray) (ji17)) == 97) = false := beq_eq_false_iff_ne.mpr c38
                    have c38b1 : ((bt (⟨#[97, 98, 99, 67, 70, 77, 118]⟩ : ByteArray) (ji17)) != 97) = true := bne_iff_ne.mpr c38
                    by_cases c46 : (bt (⟨#[97, 98, 99, 67, 70, 77, 118]⟩ : ByteArray) (ji17)) = 98
                    · rw [if_pos c46] at H
                      have c46b0 : ((bt (⟨#[97, 98, 99, 67, 70, 77, 118]⟩ : ByteArray) (ji17)) == 98) = true := beq_iff_eq.mpr c46
                      have c46b1 : ((bt (⟨#[97, 98, 99, 67, 70, 77, 118]⟩ : ByteArray) (ji17)) != 98) = false := bne_eq_false_iff_eq.mpr c46
                      clear c46
                      replace H := Option.bind_eq_some_iff.mp H
                      obtain ⟨t348, A470, H⟩ := H
                      replace H : (if t348 = true then ((op_Fits.f a0_0 a0_1 1 a0_3 a0_4 a0_5 a0_6 a0_7 l0_8 32 256).bind fun t349 => (some (t349 == 1))) else (some false)) = some r := H
                      have A47 := Aside0.mk A470
                      clear A470
                      by_cases c48 : t348 = true
                      · subst c48
                        have H1 : ((op_Fits.f a0_0 a0_1 1 a0_3 a0_4 a0_5 a0_6 a0_7 l0_8 32 256).bind fun t349 => (some (t349 == 1))) = some r := by rw [if_pos rfl] at H; exact H
                        clear H
                        have H := H1
                        clear H1
                        replace H := Option.bind_eq_some_iff.mp H
                        obtain ⟨t349, A490, H⟩ := H
                        replace H : (some (t349 == 1)) = some r := H
                        have A49 := Aside0.mk A490
                        clear A490
                        obtain rfl := Option.some.inj H
                        simp only [Option.some.injEq, Prod.mk.injEq] at H
                        obtain ⟨rfl⟩ := H
                        have hcz50_0 : wc.cell? ⟨gb335, 0, none⟩ = some (.int .i64 a0_0) := (blk_cell BK335.out 0).trans rfl
                        have hcz50_1 : wc.cell? ⟨gb335, 1, none⟩ = some (.int .i64 a0_1) := (blk_cell BK335.out 1).trans rfl
                        have hcz50_2 : wc.cell? ⟨gb335, 2, none⟩ = some (.int .i64 a0_2) := (blk_cell BK335.out 2).trans rfl
                        have hcz50_3 : wc.cell? ⟨gb335, 3, none⟩ = some (.int .i64 a0_3) := (blk_cell BK335.out 3).trans rfl
                        have hcz50_4 : wc.cell? ⟨gb335, 4, none⟩ = some (.int .i64 a0_4) := (blk_cell BK335.out 4).trans rfl
                        have hcz50_5 : wc.cell? ⟨gb335, 5, none⟩ = some (.string a0_5) := (blk_cell BK335.out 5).trans rfl
                        have hcz50_6 : wc.cell? ⟨gb335, 6, none⟩ = some (.string a0_6) := (blk_cell BK335.out 6).trans rfl
                        have hcz50_7 : wc.cell? ⟨gb335, 7, none⟩ = some (.string a0_7) := (blk_cell BK335.out 7).trans rfl
                        have hcz50_8 : wc.cell? ⟨gb335, 8, none⟩ = some (.slice A0_8 l0_8.length c0_8) := (blk_cell BK335.out 8).trans rfl
                        have hfz50_0 := blk_frozen BK335.out 0
                        have hfz50_1 := blk_frozen BK335.out 1
                        have hfz50_2 := blk_frozen BK335.out 2
                        have hfz50_3 := blk_frozen BK335.out 3
                        have hfz50_4 := blk_frozen BK335.out 4
                        have hfz50_5 := blk_frozen BK335.out 5
                        have hfz50_6 := blk_frozen BK335.out 6
                        have hfz50_7 := blk_frozen BK335.out 7
                        have hfz50_8 := blk_frozen BK335.out 8
                        go_wp2_with (first | ((with_reducible refine gate_callee (f := 16) rfl ?_); refine goesL_ (some 71) rfl rfl Tryd.func16 (by kernel_rfl) rfl #[] rfl (by (try simp only [List.map_toArray, List.map_cons, List.map_nil]); first | done | rfl | (simp only [List.length_drop, List.length_take]; rfl)) ?_; (with_reducible refine (secateurlaw07_live.calls kj21  true _ ?side1 A47.out).mono ?_); (case side1 => exact GW.below HG.out (by repeat (first | (with_reducible first | exact HB.out | apply below_alloc | apply pw_below_drewN | apply below_drew1 | refine below_set ?_ GE335.out) | exact HB.out))); rintro e w51 ⟨rfl, hb⟩; refine ⟨_, rfl, ?_⟩; have n0_ := Aside0.mk (blk_below (g := gb335) (o := .cells #[.int .i64 a0_0, .int .i64 a0_1, .int .i64 1, .int .i64 a0_3, .int .i64 a0_4, .string a0_5, .string a0_6, .string a0_7, .slice A0_8 l0_8.length c0_8] 44 (0, 0)) (by (with_reducible repeat (first | refine blk_drewN ?_ _ | refine blk_drew ?_ | refine blk_alloc ?_ _)); refine blk_put (cs := #[.int .i64 a0_0, .int .i64 a0_1, .int .i64 a0_2, .int .i64 a0_3, .int .i64 a0_4, .string a0_5, .string a0_6, .string a0_7, .slice A0_8 l0_8.length c0_8]) ?_ 2 _ rfl; (with_reducible repeat (first | refine blk_drewN ?_ _ | refine blk_drew ?_ | refine blk_alloc ?_ _)); exact BK335.out) hb); have n1_ := Aside0.mk (below_step (by repeat (first | (with_reducible first | exact HB.out | apply below_alloc | apply pw_below_drewN | apply below_drew1 | refine below_set ?_ GE335.out) | exact HB.out)) hb); clear BK335; clear HB; have BK335 := n0_; have HB := n1_; clear n0_ n1_; (try clear hb); (try clear hb2); (try clear hk); (try clear hi); have hcz52_0 : w51.cell? ⟨gb335, 0, none⟩ = some (.int .i64 a0_0) := (blk_cell BK335.out 0).trans rfl; have hcz52_1 : w51.cell? ⟨gb335, 1, none⟩ = some (.int .i64 a0_1) := (blk_cell BK335.out 1).trans rfl; have hcz52_2 : w51.cell? ⟨gb335, 2, none⟩ = some (.int .i64 1) := (blk_cell BK335.out 2).trans rfl; have hcz52_3 : w51.cell? ⟨gb335, 3, none⟩ = some (.int .i64 a0_3) := (blk_cell BK335.out 3).trans rfl; have hcz52_4 : w51.cell? ⟨gb335, 4, none⟩ = some (.int .i64 a0_4) := (blk_cell BK335.out 4).trans rfl; have hcz52_5 : w51.cell? ⟨gb335, 5, none⟩ = some (.string a0_5) := (blk_cell BK335.out 5).trans rfl; have hcz52_6 : w51.cell? ⟨gb335, 6, none⟩ = some (.string a0_6) := (blk_cell BK335.out 6).trans rfl; have hcz52_7 : w51.cell? ⟨gb335, 7, none⟩ = some (.string a0_7) := (blk_cell BK335.out 7).trans rfl; have hcz52_8 : w51.cell? ⟨gb335, 8, none⟩ = some (.slice A0_8 l0_8.length c0_8) := (blk_cell BK335.out 8).trans rfl; have hfz52_0 := blk_frozen BK335.out 0; have hfz52_1 := blk_frozen BK335.out 1; have hfz52_2 := blk_frozen BK335.out 2; have hfz52_3 := blk_frozen BK335.out 3; have hfz52_4 := blk_frozen BK335.out 4; have hfz52_5 := blk_frozen BK335.out 5; have hfz52_6 := blk_frozen BK335.out 6; have hfz52_7 := blk_frozen BK335.out 7; have hfz52_8 := blk_frozen BK335.out 8) | (go_at_call 23; (with_reducible refine (op_Fits.calls a0_0 a0_1 1 a0_3 a0_4 a0_5 a0_6 a0_7 _ _ l0_8 32 256 t349 _ ?side3 ?side1 ?side2 A49.out).mono ?_); (case side1 => repeat (first | exact (Kd.C_below HR0_8.out HB.out) | (with_reducible refine Kd.C_alloc ?_ _) | (with_reducible refine Kd.C_drewN ?_ _) | (with_reducible refine Kd.C_drew ?_))); (case side2 => exact HC0_8.out); (case side3 => repeat (first | exact (GW.below HG.out HB.out) | (with_reducible refine GW.alloc ?_ _) | (with_reducible refine GW.drewN ?_ _) | (with_reducible refine GW.drew ?_))); rintro e w53 ⟨rfl, hb⟩; have n0_ := Aside0.mk (blk_below (g := gb335) (o := .cells #[.int .i64 a0_0, .int .i64 a0_1, .int .i64 1, .int .i64 a0_3, .int .i64 a0_4, .string a0_5, .string a0_6, .string a0_7, .slice A0_8 l0_8.length c0_8] 44 (0, 0)) (by (with_reducible repeat (first | refine blk_drewN ?_ _ | refine blk_drew ?_ | refine blk_alloc ?_ _)); exact BK335.out) hb); have n1_ := Aside0.mk (below_step (by repeat (first | (with_reducible first | exact HB.out | apply below_alloc | apply pw_below_drewN | apply below_drew1 | refine below_set ?_ GE335.out) | exact HB.out)) hb); clear BK335; clear HB; have BK335 := n0_; have HB := n1_; clear n0_ n1_; (try clear hb); (try clear hb2); (try clear hk); (try clear hi)))
                        go_ret
                        exact ⟨by first | rfl | (simp [errW_none, errW_some] <;> rfl) | (simp only [← hji17]; first | rfl | (simp [errW_none, errW_some] <;> rfl)) | (simp [*, errW_none, errW_some] <;> rfl), by repeat (first | (with_reducible first | exact HB.out | apply below_alloc | apply pw_below_drewN | apply below_drew1 | refine below_set ?_ GE335.out) | exact HB.out)⟩
                      · replace c48 := Bool.eq_false_iff.mpr c48
                        subst c48
                        have H1 : (some false) = some r := by rw [if_neg (show ¬ (false = true) by decide)] at H; exact H
                        clear H
                        have H := H1
                        clear H1
                        obtain rfl := Option.some.inj H
                        cases HRT.out
                    · rw [if_neg c46] at H
                      have c46b0 : ((bt (⟨#[97, 98, 99, 67, 70, 77, 118]⟩ : ByteArray) (ji17)) == 98) = false := beq_eq_false_iff_ne.mpr c46
                      have c46b1 : ((bt (⟨#[97, 98, 99, 67, 70, 77, 118]⟩ : ByteArray) (ji17)) != 98) = true := bne_iff_ne.mpr c46
                      by_cases c54 : (bt (⟨#[97, 98, 99, 67, 70, 77, 118]⟩ : ByteArray) (ji17)) = 99
                      · rw [if_pos c54] at H
                        have c54b0 : ((bt (⟨#[97, 98, 99, 67, 70, 77, 118]⟩ : ByteArray) (ji17)) == 99) = true := beq_iff_eq.mpr c54
                        have c54b1 : ((bt (⟨#[97, 98, 99, 67, 70, 77, 118]⟩ : ByteArray) (ji17)) != 99) = false := bne_eq_false_iff_eq.mpr c54
                        clear c54
                        replace H := Option.bind_eq_some_iff.mp H
                        obtain ⟨t350, A550, H⟩ := H
                        replace H : (if t350 = true then ((op_Fits.f a0_0 a0_1 a0_2 1 a0_4 a0_5 a0_6 a0_7 l0_8 32 256).bind fun t351 => (some (t351 == 1))) else (some false)) = some r := H
                        have A55 := Aside0.mk A550
                        clear A550
                        by_cases c56 : t350 = true
                        · subst c56
                          have H1 : ((op_Fits.f a0_0 a0_1 a0_2 1 a0_4 a0_5 a0_6 a0_7 l0_8 32 256).bind fun t351 => (some (t351 == 1))) = some r := by rw [if_pos rfl] at H; exact H
                          clear H
                          have H := H1
                          clear H1
                          replace H := Option.bind_eq_some_iff.mp H
                          obtain ⟨t351, A570, H⟩ := H
                          replace H : (some (t351 == 1)) = some r := H
                          have A57 := Aside0.mk A570
                          clear A570
                          obtain rfl := Option.some.inj H
                          simp only [Option.some.injEq, Prod.mk.injEq] at H
                          obtain ⟨rfl⟩ := H
                          have hcz58_0 : wc.cell? ⟨gb335, 0, none⟩ = some (.int .i64 a0_0) := (blk_cell BK335.out 0).trans rfl
                          have hcz58_1 : wc.cell? ⟨gb335, 1, none⟩ = some (.int .i64 a0_1) := (blk_cell BK335.out 1).trans rfl
                          have hcz58_2 : wc.cell? ⟨gb335, 2, none⟩ = some (.int .i64 a0_2) := (blk_cell BK335.out 2).trans rfl
                          have hcz58_3 : wc.cell? ⟨gb335, 3, none⟩ = some (.int .i64 a0_3) := (blk_cell BK335.out 3).trans rfl
                          have hcz58_4 : wc.cell? ⟨gb335, 4, none⟩ = some (.int .i64 a0_4) := (blk_cell BK335.out 4).trans rfl
                          have hcz58_5 : wc.cell? ⟨gb335, 5, none⟩ = some (.string a0_5) := (blk_cell BK335.out 5).trans rfl
                          have hcz58_6 : wc.cell? ⟨gb335, 6, none⟩ = some (.string a0_6) := (blk_cell BK335.out 6).trans rfl
                          have hcz58_7 : wc.cell? ⟨gb335, 7, none⟩ = some (.string a0_7) := (blk_cell BK335.out 7).trans rfl
                          have hcz58_8 : wc.cell? ⟨gb335, 8, none⟩ = some (.slice A0_8 l0_8.length c0_8) := (blk_cell BK335.out 8).trans rfl
                          have hfz58_0 := blk_frozen BK335.out 0
                          have hfz58_1 := blk_frozen BK335.out 1
                          have hfz58_2 := blk_frozen BK335.out 2
                          have hfz58_3 := blk_frozen BK335.out 3
                          have hfz58_4 := blk_frozen BK335.out 4
                          have hfz58_5 := blk_frozen BK335.out 5
                          have hfz58_6 := blk_frozen BK335.out 6
                          have hfz58_7 := blk_frozen BK335.out 7
                          have hfz58_8 := blk_frozen BK335.out 8
                          go_wp2_with (first | ((with_reducible refine gate_callee (f := 16) rfl ?_); refine goesL_ (some 71) rfl rfl Tryd.func16 (by kernel_rfl) rfl #[] rfl (by (try simp only [List.map_toArray, List.map_cons, List.map_nil]); first | done | rfl | (simp only [List.length_drop, List.length_take]; rfl)) ?_; (with_reducible refine (secateurlaw07_live.calls kj21  true _ ?side1 A55.out).mono ?_); (case side1 => exact GW.below HG.out (by repeat (first | (with_reducible first | exact HB.out | apply below_alloc | apply pw_below_drewN | apply below_drew1 | refine below_set ?_ GE335.out) | exact HB.out))); rintro e w59 ⟨rfl, hb⟩; refine ⟨_, rfl, ?_⟩; have n0_ := Aside0.mk (blk_below (g := gb335) (o := .cells #[.int .i64 a0_0, .int .i64 a0_1, .int .i64 a0_2, .int .i64 1, .int .i64 a0_4, .string a0_5, .string a0_6, .string a0_7, .slice A0_8 l0_8.length c0_8] 44 (0, 0)) (by (with_reducible repeat (first | refine blk_drewN ?_ _ | refine blk_drew ?_ | refine blk_alloc ?_ _)); refine blk_put (cs := #[.int .i64 a0_0, .int .i64 a0_1, .int .i64 a0_2, .int .i64 a0_3, .int .i64 a0_4, .string a0_5, .string a0_6, .string a0_7, .slice A0_8 l0_8.length c0_8]) ?_ 3 _ rfl; (with_reducible repeat (first | refine blk_drewN ?_ _ | refine blk_drew ?_ | refine blk_alloc ?_ _)); exact BK335.out) hb); have n1_ := Aside0.mk (below_step (by repeat (first | (with_reducible first | exact HB.out | apply below_alloc | apply pw_below_drewN | apply below_drew1 | refine below_set ?_ GE335.out) | exact HB.out)) hb); clear BK335; clear HB; have BK335 := n0_; have HB := n1_; clear n0_ n1_; (try clear hb); (try clear hb2); (try clear hk); (try clear hi); have hcz60_0 : w59.cell? ⟨gb335, 0, none⟩ = some (.int .i64 a0_0) := (blk_cell BK335.out 0).trans rfl; have hcz60_1 : w59.cell? ⟨gb335, 1, none⟩ = some (.int .i64 a0_1) := (blk_cell BK335.out 1).trans rfl; have hcz60_2 : w59.cell? ⟨gb335, 2, none⟩ = some (.int .i64 a0_2) := (blk_cell BK335.out 2).trans rfl; have hcz60_3 : w59.cell? ⟨gb335, 3, none⟩ = some (.int .i64 1) := (blk_cell BK335.out 3).trans rfl; have hcz60_4 : w59.cell? ⟨gb335, 4, none⟩ = some (.int .i64 a0_4) := (blk_cell BK335.out 4).trans rfl; have hcz60_5 : w59.cell? ⟨gb335, 5, none⟩ = some (.string a0_5) := (blk_cell BK335.out 5).trans rfl; have hcz60_6 : w59.cell? ⟨gb335, 6, none⟩ = some (.string a0_6) := (blk_cell BK335.out 6).trans rfl; have hcz60_7 : w59.cell? ⟨gb335, 7, none⟩ = some (.string a0_7) := (blk_cell BK335.out 7).trans rfl; have hcz60_8 : w59.cell? ⟨gb335, 8, none⟩ = some (.slice A0_8 l0_8.length c0_8) := (blk_cell BK335.out 8).trans rfl; have hfz60_0 := blk_frozen BK335.out 0; have hfz60_1 := blk_frozen BK335.out 1; have hfz60_2 := blk_frozen BK335.out 2; have hfz60_3 := blk_frozen BK335.out 3; have hfz60_4 := blk_frozen BK335.out 4; have hfz60_5 := blk_frozen BK335.out 5; have hfz60_6 := blk_frozen BK335.out 6; have hfz60_7 := blk_frozen BK335.out 7; have hfz60_8 := blk_frozen BK335.out 8) | (go_at_call 23; (with_reducible refine (op_Fits.calls a0_0 a0_1 a0_2 1 a0_4 a0_5 a0_6 a0_7 _ _ l0_8 32 256 t351 _ ?side3 ?side1 ?side2 A57.out).mono ?_); (case side1 => repeat (first | exact (Kd.C_below HR0_8.out HB.out) | (with_reducible refine Kd.C_alloc ?_ _) | (with_reducible refine Kd.C_drewN ?_ _) | (with_reducible refine Kd.C_drew ?_))); (case side2 => exact HC0_8.out); (case side3 => repeat (first | exact (GW.below HG.out HB.out) | (with_reducible refine GW.alloc ?_ _) | (with_reducible refine GW.drewN ?_ _) | (with_reducible refine GW.drew ?_))); rintro e w61 ⟨rfl, hb⟩; have n0_ := Aside0.mk (blk_below (g := gb335) (o := .cells #[.int .i64 a0_0, .int .i64 a0_1, .int .i64 a0_2, .int .i64 1, .int .i64 a0_4, .string a0_5, .string a0_6, .string a0_7, .slice A0_8 l0_8.length c0_8] 44 (0, 0)) (by (with_reducible repeat (first | refine blk_drewN ?_ _ | refine blk_drew ?_ | refine blk_alloc ?_ _)); exact BK335.out) hb); have n1_ := Aside0.mk (below_step (by repeat (first | (with_reducible first | exact HB.out | apply below_alloc | apply pw_below_drewN | apply below_drew1 | refine below_set ?_ GE335.out) | exact HB.out)) hb); clear BK335; clear HB; have BK335 := n0_; have HB := n1_; clear n0_ n1_; (try clear hb); (try clear hb2); (try clear hk); (try clear hi)))
                          go_ret
                          exact ⟨by first | rfl | (simp [errW_none, errW_some] <;> rfl) | (simp only [← hji17]; first | rfl | (simp [errW_none, errW_some] <;> rfl)) | (simp [*, errW_none, errW_some] <;> rfl), by repeat (first | (with_reducible first | exact HB.out | apply below_alloc | apply pw_below_drewN | apply below_drew1 | refine below_set ?_ GE335.out) | exact HB.out)⟩
                        · replace c56 := Bool.eq_false_iff.mpr c56
                          subst c56
                          have H1 : (some false) = some r := by rw [if_neg (show ¬ (false = true) by decide)] at H; exact H
                          clear H
                          have H := H1
                          clear H1
                          obtain rfl := Option.some.inj H
                          cases HRT.out
                      · rw [if_neg c54] at H
                        have c54b0 : ((bt (⟨#[97, 98, 99, 67, 70, 77, 118]⟩ : ByteArray) (ji17)) == 99) = false := beq_eq_false_iff_ne.mpr c54
                        have c54b1 : ((bt (⟨#[97, 98, 99, 67, 70, 77, 118]⟩ : ByteArray) (ji17)) != 99) = true := bne_iff_ne.mpr c54
                        by_cases c62 : (bt (⟨#[97, 98, 99, 67, 70, 77, 118]⟩ : ByteArray) (ji17)) = 67
                        · rw [if_pos c62] at H
                          have c62b0 : ((bt (⟨#[97, 98, 99, 67, 70, 77, 118]⟩ : ByteArray) (ji17)) == 67) = true := beq_iff_eq.mpr c62
                          have c62b1 : ((bt (⟨#[97, 98, 99, 67, 70, 77, 118]⟩ : ByteArray) (ji17)) != 67) = false := bne_eq_false_iff_eq.mpr c62
                          clear c62
                          replace H := Option.bind_eq_some_iff.mp H
                          obtain ⟨t352, A630, H⟩ := H
                          replace H : (if t352 = true then ((op_Fits.f a0_0 a0_1 a0_2 a0_3 a0_4 (⟨#[65]⟩ : ByteArray) a0_6 a0_7 l0_8 32 256).bind fun t353 => (some (t353 == 1))) else (some false)) = some r := H
                          have A63 := Aside0.mk A630
                          clear A630
                          by_cases c64 : t352 = true
                          · subst c64
                            have H1 : ((op_Fits.f a0_0 a0_1 a0_2 a0_3 a0_4 (⟨#[65]⟩ : ByteArray) a0_6 a0_7 l0_8 32 256).bind fun t353 => (some (t353 == 1))) = some r := by rw [if_pos rfl] at H; exact H
                            clear H
                            have H := H1
                            clear H1
                            replace H := Option.bind_eq_some_iff.mp H
                            obtain ⟨t353, A650, H⟩ := H
                            replace H : (some (t353 == 1)) = some r := H
                            have A65 := Aside0.mk A650
                            clear A650
                            obtain rfl := Option.some.inj H
                            simp only [Option.some.injEq, Prod.mk.injEq] at H
                            obtain ⟨rfl⟩ := H
                            have hcz66_0 : wc.cell? ⟨gb335, 0, none⟩ = some (.int .i64 a0_0) := (blk_cell BK335.out 0).trans rfl
                            have hcz66_1 : wc.cell? ⟨gb335, 1, none⟩ = some (.int .i64 a0_1) := (blk_cell BK335.out 1).trans rfl
                            have hcz66_2 : wc.cell? ⟨gb335, 2, none⟩ = some (.int .i64 a0_2) := (blk_cell BK335.out 2).trans rfl
                            have hcz66_3 : wc.cell? ⟨gb335, 3, none⟩ = some (.int .i64 a0_3) := (blk_cell BK335.out 3).trans rfl
                            have hcz66_4 : wc.cell? ⟨gb335, 4, none⟩ = some (.int .i64 a0_4) := (blk_cell BK335.out 4).trans rfl
                            have hcz66_5 : wc.cell? ⟨gb335, 5, none⟩ = some (.string a0_5) := (blk_cell BK335.out 5).trans rfl
                            have hcz66_6 : wc.cell? ⟨gb335, 6, none⟩ = some (.string a0_6) := (blk_cell BK335.out 6).trans rfl
                            have hcz66_7 : wc.cell? ⟨gb335, 7, none⟩ = some (.string a0_7) := (blk_cell BK335.out 7).trans rfl
                            have hcz66_8 : wc.cell? ⟨gb335, 8, none⟩ = some (.slice A0_8 l0_8.length c0_8) := (blk_cell BK335.out 8).trans rfl
                            have hfz66_0 := blk_frozen BK335.out 0
                            have hfz66_1 := blk_frozen BK335.out 1
                            have hfz66_2 := blk_frozen BK335.out 2
                            have hfz66_3 := blk_frozen BK335.out 3
                            have hfz66_4 := blk_frozen BK335.out 4
                            have hfz66_5 := blk_frozen BK335.out 5
                            have hfz66_6 := blk_frozen BK335.out 6
                            have hfz66_7 := blk_frozen BK335.out 7
                            have hfz66_8 := blk_frozen BK335.out 8
                            go_wp2_with (first | ((with_reducible refine gate_callee (f := 16) rfl ?_); refine goesL_ (some 71) rfl rfl Tryd.func16 (by kernel_rfl) rfl #[] rfl (by (try simp only [List.map_toArray, List.map_cons, List.map_nil]); first | done | rfl | (simp only [List.length_drop, List.length_take]; rfl)) ?_; (with_reducible refine (secateurlaw07_live.calls kj21  true _ ?side1 A63.out).mono ?_); (case side1 => exact GW.below HG.out (by repeat (first | (with_reducible first | exact HB.out | apply below_alloc | apply pw_below_drewN | apply below_drew1 | refine below_set ?_ GE335.out) | exact HB.out))); rintro e w67 ⟨rfl, hb⟩; refine ⟨_, rfl, ?_⟩; have n0_ := Aside0.mk (blk_below (g := gb335) (o := .cells #[.int .i64 a0_0, .int .i64 a0_1, .int .i64 a0_2, .int .i64 a0_3, .int .i64 a0_4, .string (⟨#[65]⟩ : ByteArray), .string a0_6, .string a0_7, .slice A0_8 l0_8.length c0_8] 44 (0, 0)) (by (with_reducible repeat (first | refine blk_drewN ?_ _ | refine blk_drew ?_ | refine blk_alloc ?_ _)); refine blk_put (cs := #[.int .i64 a0_0, .int .i64 a0_1, .int .i64 a0_2, .int .i64 a0_3, .int .i64 a0_4, .string a0_5, .string a0_6, .string a0_7, .slice A0_8 l0_8.length c0_8]) ?_ 5 _ rfl; (with_reducible repeat (first | refine blk_drewN ?_ _ | refine blk_drew ?_ | refine blk_alloc ?_ _)); exact BK335.out) hb); have n1_ := Aside0.mk (below_step (by repeat (first | (with_reducible first | exact HB.out | apply below_alloc | apply pw_below_drewN | apply below_drew1 | refine below_set ?_ GE335.out) | exact HB.out)) hb); clear BK335; clear HB; have BK335 := n0_; have HB := n1_; clear n0_ n1_; (try clear hb); (try clear hb2); (try clear hk); (try clear hi); have hcz68_0 : w67.cell? ⟨gb335, 0, none⟩ = some (.int .i64 a0_0) := (blk_cell BK335.out 0).trans rfl; have hcz68_1 : w67.cell? ⟨gb335, 1, none⟩ = some (.int .i64 a0_1) := (blk_cell BK335.out 1).trans rfl; have hcz68_2 : w67.cell? ⟨gb335, 2, none⟩ = some (.int .i64 a0_2) := (blk_cell BK335.out 2).trans rfl; have hcz68_3 : w67.cell? ⟨gb335, 3, none⟩ = some (.int .i64 a0_3) := (blk_cell BK335.out 3).trans rfl; have hcz68_4 : w67.cell? ⟨gb335, 4, none⟩ = some (.int .i64 a0_4) := (blk_cell BK335.out 4).trans rfl; have hcz68_5 : w67.cell? ⟨gb335, 5, none⟩ = some (.string (⟨#[65]⟩ : ByteArray)) := (blk_cell BK335.out 5).trans rfl; have hcz68_6 : w67.cell? ⟨gb335, 6, none⟩ = some (.string a0_6) := (blk_cell BK335.out 6).trans rfl; have hcz68_7 : w67.cell? ⟨gb335, 7, none⟩ = some (.string a0_7) := (blk_cell BK335.out 7).trans rfl; have hcz68_8 : w67.cell? ⟨gb335, 8, none⟩ = some (.slice A0_8 l0_8.length c0_8) := (blk_cell BK335.out 8).trans rfl; have hfz68_0 := blk_frozen BK335.out 0; have hfz68_1 := blk_frozen BK335.out 1; have hfz68_2 := blk_frozen BK335.out 2; have hfz68_3 := blk_frozen BK335.out 3; have hfz68_4 := blk_frozen BK335.out 4; have hfz68_5 := blk_frozen BK335.out 5; have hfz68_6 := blk_frozen BK335.out 6; have hfz68_7 := blk_frozen BK335.out 7; have hfz68_8 := blk_frozen BK335.out 8) | (go_at_call 23; (with_reducible refine (op_Fits.calls a0_0 a0_1 a0_2 a0_3 a0_4 (⟨#[65]⟩ : ByteArray) a0_6 a0_7 _ _ l0_8 32 256 t353 _ ?side3 ?side1 ?side2 A65.out).mono ?_); (case side1 => repeat (first | exact (Kd.C_below HR0_8.out HB.out) | (with_reducible refine Kd.C_alloc ?_ _) | (with_reducible refine Kd.C_drewN ?_ _) | (with_reducible refine Kd.C_drew ?_))); (case side2 => exact HC0_8.out); (case side3 => repeat (first | exact (GW.below HG.out HB.out) | (with_reducible refine GW.alloc ?_ _) | (with_reducible refine GW.drewN ?_ _) | (with_reducible refine GW.drew ?_))); rintro e w69 ⟨rfl, hb⟩; have n0_ := Aside0.mk (blk_below (g := gb335) (o := .cells #[.int .i64 a0_0, .int .i64 a0_1, .int .i64 a0_2, .int .i64 a0_3, .int .i64 a0_4, .string (⟨#[65]⟩ : ByteArray), .string a0_6, .string a0_7, .slice A0_8 l0_8.length c0_8] 44 (0, 0)) (by (with_reducible repeat (first | refine blk_drewN ?_ _ | refine blk_drew ?_ | refine blk_alloc ?_ _)); exact BK335.out) hb); have n1_ := Aside0.mk (below_step (by repeat (first | (with_reducible first | exact HB.out | apply below_alloc | apply pw_below_drewN | apply below_drew1 | refine below_set ?_ GE335.out) | exact HB.out)) hb); clear BK335; clear HB; have BK335 := n0_; have HB := n1_; clear n0_ n1_; (try clear hb); (try clear hb2); (try clear hk); (try clear hi)))
                            go_ret
                            exact ⟨by first | rfl | (simp [errW_none, errW_some] <;> rfl) | (simp only [← hji17]; first | rfl | (simp [errW_none, errW_some] <;> rfl)) | (simp [*, errW_none, errW_some] <;> rfl), by repeat (first | (with_reducible first | exact HB.out | apply below_alloc | apply pw_below_drewN | apply below_drew1 | refine below_set ?_ GE335.out) | exact HB.out)⟩
                          · replace c64 := Bool.eq_false_iff.mpr c64
                            subst c64
                            have H1 : (some false) = some r := by rw [if_neg (show ¬ (false = true) by decide)] at H; exact H
                            clear H
                            have H := H1
                            clear H1
                            obtain rfl := Option.some.inj H
                            cases HRT.out
                        · rw [if_neg c62] at H
                          have c62b0 : ((bt (⟨#[97, 98, 99, 67, 70, 77, 118]⟩ : ByteArray) (ji17)) == 67) = false := beq_eq_false_iff_ne.mpr c62
                          have c62b1 : ((bt (⟨#[97, 98, 99, 67, 70, 77, 118]⟩ : ByteArray) (ji17)) != 67) = true := bne_iff_ne.mpr c62
                          by_cases c70 : (bt (⟨#[97, 98, 99, 67, 70, 77, 118]⟩ : ByteArray) (ji17)) = 70
                          · rw [if_pos c70] at H
                            have c70b0 : ((bt (⟨#[97, 98, 99, 67, 70, 77, 118]⟩ : ByteArray) (ji17)) == 70) = true := beq_iff_eq.mpr c70
                            have c70b1 : ((bt (⟨#[97, 98, 99, 67, 70, 77, 118]⟩ : ByteArray) (ji17)) != 70) = false := bne_eq_false_iff_eq.mpr c70
                            clear c70
                            replace H := Option.bind_eq_some_iff.mp H
                            obtain ⟨t354, A710, H⟩ := H
                            replace H : (if t354 = true then ((op_Fits.f a0_0 a0_1 a0_2 a0_3 a0_4 a0_5 (⟨#[102]⟩ : ByteArray) a0_7 l0_8 32 256).bind fun t355 => (some (t355 == 1))) else (some false)) = some r := H
                            have A71 := Aside0.mk A710
                            clear A710
                            by_cases c72 : t354 = true
                            · subst c72
                              have H1 : ((op_Fits.f a0_0 a0_1 a0_2 a0_3 a0_4 a0_5 (⟨#[102]⟩ : ByteArray) a0_7 l0_8 32 256).bind fun t355 => (some (t355 == 1))) = some r := by rw [if_pos rfl] at H; exact H
                              clear H
                              have H := H1
                              clear H1
                              replace H := Option.bind_eq_some_iff.mp H
                              obtain ⟨t355, A730, H⟩ := H
                              replace H : (some (t355 == 1)) = some r := H
                              have A73 := Aside0.mk A730
                              clear A730
                              obtain rfl := Option.some.inj H
                              simp only [Option.some.injEq, Prod.mk.injEq] at H
                              obtain ⟨rfl⟩ := H
                              have hcz74_0 : wc.cell? ⟨gb335, 0, none⟩ = some (.int .i64 a0_0) := (blk_cell BK335.out 0).trans rfl
                              have hcz74_1 : wc.cell? ⟨gb335, 1, none⟩ = some (.int .i64 a0_1) := (blk_cell BK335.out 1).trans rfl
                              have hcz74_2 : wc.cell? ⟨gb335, 2, none⟩ = some (.int .i64 a0_2) := (blk_cell BK335.out 2).trans rfl
                              have hcz74_3 : wc.cell? ⟨gb335, 3, none⟩ = some (.int .i64 a0_3) := (blk_cell BK335.out 3).trans rfl
                              have hcz74_4 : wc.cell? ⟨gb335, 4, none⟩ = some (.int .i64 a0_4) := (blk_cell BK335.out 4).trans rfl
                              have hcz74_5 : wc.cell? ⟨gb335, 5, none⟩ = some (.string a0_5) := (blk_cell BK335.out 5).trans rfl
                              have hcz74_6 : wc.cell? ⟨gb335, 6, none⟩ = some (.string a0_6) := (blk_cell BK335.out 6).trans rfl
                              have hcz74_7 : wc.cell? ⟨gb335, 7, none⟩ = some (.string a0_7) := (blk_cell BK335.out 7).trans rfl
                              have hcz74_8 : wc.cell? ⟨gb335, 8, none⟩ = some (.slice A0_8 l0_8.length c0_8) := (blk_cell BK335.out 8).trans rfl
                              have hfz74_0 := blk_frozen BK335.out 0
                              have hfz74_1 := blk_frozen BK335.out 1
                              have hfz74_2 := blk_frozen BK335.out 2
                              have hfz74_3 := blk_frozen BK335.out 3
                              have hfz74_4 := blk_frozen BK335.out 4
                              have hfz74_5 := blk_frozen BK335.out 5
                              have hfz74_6 := blk_frozen BK335.out 6
                              have hfz74_7 := blk_frozen BK335.out 7
                              have hfz74_8 := blk_frozen BK335.out 8
                              go_wp2_with (first | ((with_reducible refine gate_callee (f := 16) rfl ?_); refine goesL_ (some 71) rfl rfl Tryd.func16 (by kernel_rfl) rfl #[] rfl (by (try simp only [List.map_toArray, List.map_cons, List.map_nil]); first | done | rfl | (simp only [List.length_drop, List.length_take]; rfl)) ?_; (with_reducible refine (secateurlaw07_live.calls kj21  true _ ?side1 A71.out).mono ?_); (case side1 => exact GW.below HG.out (by repeat (first | (with_reducible first | exact HB.out | apply below_alloc | apply pw_below_drewN | apply below_drew1 | refine below_set ?_ GE335.out) | exact HB.out))); rintro e w75 ⟨rfl, hb⟩; refine ⟨_, rfl, ?_⟩; have n0_ := Aside0.mk (blk_below (g := gb335) (o := .cells #[.int .i64 a0_0, .int .i64 a0_1, .int .i64 a0_2, .int .i64 a0_3, .int .i64 a0_4, .string a0_5, .string (⟨#[102]⟩ : ByteArray), .string a0_7, .slice A0_8 l0_8.length c0_8] 44 (0, 0)) (by (with_reducible repeat (first | refine blk_drewN ?_ _ | refine blk_drew ?_ | refine blk_alloc ?_ _)); refine blk_put (cs := #[.int .i64 a0_0, .int .i64 a0_1, .int .i64 a0_2, .int .i64 a0_3, .int .i64 a0_4, .string a0_5, .string a0_6, .string a0_7, .slice A0_8 l0_8.length c0_8]) ?_ 6 _ rfl; (with_reducible repeat (first | refine blk_drewN ?_ _ | refine blk_drew ?_ | refine blk_alloc ?_ _)); exact BK335.out) hb); have n1_ := Aside0.mk (below_step (by repeat (first | (with_reducible first | exact HB.out | apply below_alloc | apply pw_below_drewN | apply below_drew1 | refine below_set ?_ GE335.out) | exact HB.out)) hb); clear BK335; clear HB; have BK335 := n0_; have HB := n1_; clear n0_ n1_; (try clear hb); (try clear hb2); (try clear hk); (try clear hi); have hcz76_0 : w75.cell? ⟨gb335, 0, none⟩ = some (.int .i64 a0_0) := (blk_cell BK335.out 0).trans rfl; have hcz76_1 : w75.cell? ⟨gb335, 1, none⟩ = some (.int .i64 a0_1) := (blk_cell BK335.out 1).trans rfl; have hcz76_2 : w75.cell? ⟨gb335, 2, none⟩ = some (.int .i64 a0_2) := (blk_cell BK335.out 2).trans rfl; have hcz76_3 : w75.cell? ⟨gb335, 3, none⟩ = some (.int .i64 a0_3) := (blk_cell BK335.out 3).trans rfl; have hcz76_4 : w75.cell? ⟨gb335, 4, none⟩ = some (.int .i64 a0_4) := (blk_cell BK335.out 4).trans rfl; have hcz76_5 : w75.cell? ⟨gb335, 5, none⟩ = some (.string a0_5) := (blk_cell BK335.out 5).trans rfl; have hcz76_6 : w75.cell? ⟨gb335, 6, none⟩ = some (.string (⟨#[102]⟩ : ByteArray)) := (blk_cell BK335.out 6).trans rfl; have hcz76_7 : w75.cell? ⟨gb335, 7, none⟩ = some (.string a0_7) := (blk_cell BK335.out 7).trans rfl; have hcz76_8 : w75.cell? ⟨gb335, 8, none⟩ = some (.slice A0_8 l0_8.length c0_8) := (blk_cell BK335.out 8).trans rfl; have hfz76_0 := blk_frozen BK335.out 0; have hfz76_1 := blk_frozen BK335.out 1; have hfz76_2 := blk_frozen BK335.out 2; have hfz76_3 := blk_frozen BK335.out 3; have hfz76_4 := blk_frozen BK335.out 4; have hfz76_5 := blk_frozen BK335.out 5; have hfz76_6 := blk_frozen BK335.out 6; have hfz76_7 := blk_frozen BK335.out 7; have hfz76_8 := blk_frozen BK335.out 8) | (go_at_call 23; (with_reducible refine (op_Fits.calls a0_0 a0_1 a0_2 a0_3 a0_4 a0_5 (⟨#[102]⟩ : ByteArray) a0_7 _ _ l0_8 32 256 t355 _ ?side3 ?side1 ?side2 A73.out).mono ?_); (case side1 => repeat (first | exact (Kd.C_below HR0_8.out HB.out) | (with_reducible refine Kd.C_alloc ?_ _) | (with_reducible refine Kd.C_drewN ?_ _) | (with_reducible refine Kd.C_drew ?_))); (case side2 => exact HC0_8.out); (case side3 => repeat (first | exact (GW.below HG.out HB.out) | (with_reducible refine GW.alloc ?_ _) | (with_reducible refine GW.drewN ?_ _) | (with_reducible refine GW.drew ?_))); rintro e w77 ⟨rfl, hb⟩; have n0_ := Aside0.mk (blk_below (g := gb335) (o := .cells #[.int .i64 a0_0, .int .i64 a0_1, .int .i64 a0_2, .int .i64 a0_3, .int .i64 a0_4, .string a0_5, .string (⟨#[102]⟩ : ByteArray), .string a0_7, .slice A0_8 l0_8.length c0_8] 44 (0, 0)) (by (with_reducible repeat (first | refine blk_drewN ?_ _ | refine blk_drew ?_ | refine blk_alloc ?_ _)); exact BK335.out) hb); have n1_ := Aside0.mk (below_step (by repeat (first | (with_reducible first | exact HB.out | apply below_alloc | apply pw_below_drewN | apply below_drew1 | refine below_set ?_ GE335.out) | exact HB.out)) hb); clear BK335; clear HB; have BK335 := n0_; have HB := n1_; clear n0_ n1_; (try clear hb); (try clear hb2); (try clear hk); (try clear hi)))
                              go_ret
                              exact ⟨by first | rfl | (simp [errW_none, errW_some] <;> rfl) | (simp only [← hji17]; first | rfl | (simp [errW_none, errW_some] <;> rfl)) | (simp [*, errW_none, errW_some] <;> rfl), by repeat (first | (with_reducible first | exact HB.out | apply below_alloc | apply pw_below_drewN | apply below_drew1 | refine below_set ?_ GE335.out) | exact HB.out)⟩
                            · replace c72 := Bool.eq_false_iff.mpr c72
                              subst c72
                              have H1 : (some false) = some r := by rw [if_neg (show ¬ (false = true) by decide)] at H; exact H
                              clear H
                              have H := H1
                              clear H1
                              obtain rfl := Option.some.inj H
                              cases HRT.out
                          · rw [if_neg c70] at H
                            have c70b0 : ((bt (⟨#[97, 98, 99, 67, 70, 77, 118]⟩ : ByteArray) (ji17)) == 70) = false := beq_eq_false_iff_ne.mpr c70
                            have c70b1 : ((bt (⟨#[97, 98, 99, 67, 70, 77, 118]⟩ : ByteArray) (ji17)) != 70) = true := bne_iff_ne.mpr c70
                            by_cases c78 : (bt (⟨#[97, 98, 99, 67, 70, 77, 118]⟩ : ByteArray) (ji17)) = 77
                            · rw [if_pos c78] at H
                              have c78b0 : ((bt (⟨#[97, 98, 99, 67, 70, 77, 118]⟩ : ByteArray) (ji17)) == 77) = true := beq_iff_eq.mpr c78
                              have c78b1 : ((bt (⟨#[97, 98, 99, 67, 70, 77, 118]⟩ : ByteArray) (ji17)) != 77) = false := bne_eq_false_iff_eq.mpr c78
                              clear c78
                              replace H := Option.bind_eq_some_iff.mp H
                              obtain ⟨t356, A790, H⟩ := H
                              replace H : (if t356 = true then ((op_Fits.f a0_0 a0_1 a0_2 a0_3 a0_4 a0_5 a0_6 (⟨#[40, 41, 86]⟩ : ByteArray) l0_8 32 256).bind fun t357 => (some (t357 == 1))) else (some false)) = some r := H
                              have A79 := Aside0.mk A790
                              clear A790
                              by_cases c80 : t356 = true
                              · subst c80
                                have H1 : ((op_Fits.f a0_0 a0_1 a0_2 a0_3 a0_4 a0_5 a0_6 (⟨#[40, 41, 86]⟩ : ByteArray) l0_8 32 256).bind fun t357 => (some (t357 == 1))) = some r := by rw [if_pos rfl] at H; exact H
                                clear H
                                have H := H1
                                clear H1
                                replace H := Option.bind_eq_some_iff.mp H
                                obtain ⟨t357, A810, H⟩ := H
                                replace H : (some (t357 == 1)) = some r := H
                                have A81 := Aside0.mk A810
                                clear A810
                                obtain rfl := Option.some.inj H
                                simp only [Option.some.injEq, Prod.mk.injEq] at H
                                obtain ⟨rfl⟩ := H
                                have hcz82_0 : wc.cell? ⟨gb335, 0, none⟩ = some (.int .i64 a0_0) := (blk_cell BK335.out 0).trans rfl
                                have hcz82_1 : wc.cell? ⟨gb335, 1, none⟩ = some (.int .i64 a0_1) := (blk_cell BK335.out 1).trans rfl
                                have hcz82_2 : wc.cell? ⟨gb335, 2, none⟩ = some (.int .i64 a0_2) := (blk_cell BK335.out 2).trans rfl
                                have hcz82_3 : wc.cell? ⟨gb335, 3, none⟩ = some (.int .i64 a0_3) := (blk_cell BK335.out 3).trans rfl
                                have hcz82_4 : wc.cell? ⟨gb335, 4, none⟩ = some (.int .i64 a0_4) := (blk_cell BK335.out 4).trans rfl
                                have hcz82_5 : wc.cell? ⟨gb335, 5, none⟩ = some (.string a0_5) := (blk_cell BK335.out 5).trans rfl
                                have hcz82_6 : wc.cell? ⟨gb335, 6, none⟩ = some (.string a0_6) := (blk_cell BK335.out 6).trans rfl
                                have hcz82_7 : wc.cell? ⟨gb335, 7, none⟩ = some (.string a0_7) := (blk_cell BK335.out 7).trans rfl
                                have hcz82_8 : wc.cell? ⟨gb335, 8, none⟩ = some (.slice A0_8 l0_8.length c0_8) := (blk_cell BK335.out 8).trans rfl
                                have hfz82_0 := blk_frozen BK335.out 0
                                have hfz82_1 := blk_frozen BK335.out 1
                                have hfz82_2 := blk_frozen BK335.out 2
                                have hfz82_3 := blk_frozen BK335.out 3
                                have hfz82_4 := blk_frozen BK335.out 4
                                have hfz82_5 := blk_frozen BK335.out 5
                                have hfz82_6 := blk_frozen BK335.out 6
                                have hfz82_7 := blk_frozen BK335.out 7
                                have hfz82_8 := blk_frozen BK335.out 8
                                go_wp2_with (first | ((with_reducible refine gate_callee (f := 16) rfl ?_); refine goesL_ (some 71) rfl rfl Tryd.func16 (by kernel_rfl) rfl #[] rfl (by (try simp only [List.map_toArray, List.map_cons, List.map_nil]); first | done | rfl | (simp only [List.length_drop, List.length_take]; rfl)) ?_; (with_reducible refine (secateurlaw07_live.calls kj21  true _ ?side1 A79.out).mono ?_); (case side1 => exact GW.below HG.out (by repeat (first | (with_reducible first | exact HB.out | apply below_alloc | apply pw_below_drewN | apply below_drew1 | refine below_set ?_ GE335.out) | exact HB.out))); rintro e w83 ⟨rfl, hb⟩; refine ⟨_, rfl, ?_⟩; have n0_ := Aside0.mk (blk_below (g := gb335) (o := .cells #[.int .i64 a0_0, .int .i64 a0_1, .int .i64 a0_2, .int .i64 a0_3, .int .i64 a0_4, .string a0_5, .string a0_6, .string (⟨#[40, 41, 86]⟩ : ByteArray), .slice A0_8 l0_8.length c0_8] 44 (0, 0)) (by (with_reducible repeat (first | refine blk_drewN ?_ _ | refine blk_drew ?_ | refine blk_alloc ?_ _)); refine blk_put (cs := #[.int .i64 a0_0, .int .i64 a0_1, .int .i64 a0_2, .int .i64 a0_3, .int .i64 a0_4, .string a0_5, .string a0_6, .string a0_7, .slice A0_8 l0_8.length c0_8]) ?_ 7 _ rfl; (with_reducible repeat (first | refine blk_drewN ?_ _ | refine blk_drew ?_ | refine blk_alloc ?_ _)); exact BK335.out) hb); have n1_ := Aside0.mk (below_step (by repeat (first | (with_reducible first | exact HB.out | apply below_alloc | apply pw_below_drewN | apply below_drew1 | refine below_set ?_ GE335.out) | exact HB.out)) hb); clear BK335; clear HB; have BK335 := n0_; have HB := n1_; clear n0_ n1_; (try clear hb); (try clear hb2); (try clear hk); (try clear hi); have hcz84_0 : w83.cell? ⟨gb335, 0, none⟩ = some (.int .i64 a0_0) := (blk_cell BK335.out 0).trans rfl; have hcz84_1 : w83.cell? ⟨gb335, 1, none⟩ = some (.int .i64 a0_1) := (blk_cell BK335.out 1).trans rfl; have hcz84_2 : w83.cell? ⟨gb335, 2, none⟩ = some (.int .i64 a0_2) := (blk_cell BK335.out 2).trans rfl; have hcz84_3 : w83.cell? ⟨gb335, 3, none⟩ = some (.int .i64 a0_3) := (blk_cell BK335.out 3).trans rfl; have hcz84_4 : w83.cell? ⟨gb335, 4, none⟩ = some (.int .i64 a0_4) := (blk_cell BK335.out 4).trans rfl; have hcz84_5 : w83.cell? ⟨gb335, 5, none⟩ = some (.string a0_5) := (blk_cell BK335.out 5).trans rfl; have hcz84_6 : w83.cell? ⟨gb335, 6, none⟩ = some (.string a0_6) := (blk_cell BK335.out 6).trans rfl; have hcz84_7 : w83.cell? ⟨gb335, 7, none⟩ = some (.string (⟨#[40, 41, 86]⟩ : ByteArray)) := (blk_cell BK335.out 7).trans rfl; have hcz84_8 : w83.cell? ⟨gb335, 8, none⟩ = some (.slice A0_8 l0_8.length c0_8) := (blk_cell BK335.out 8).trans rfl; have hfz84_0 := blk_frozen BK335.out 0; have hfz84_1 := blk_frozen BK335.out 1; have hfz84_2 := blk_frozen BK335.out 2; have hfz84_3 := blk_frozen BK335.out 3; have hfz84_4 := blk_frozen BK335.out 4; have hfz84_5 := blk_frozen BK335.out 5; have hfz84_6 := blk_frozen BK335.out 6; have hfz84_7 := blk_frozen BK335.out 7; have hfz84_8 := blk_frozen BK335.out 8) | (go_at_call 23; (with_reducible refine (op_Fits.calls a0_0 a0_1 a0_2 a0_3 a0_4 a0_5 a0_6 (⟨#[40, 41, 86]⟩ : ByteArray) _ _ l0_8 32 256 t357 _ ?side3 ?side1 ?side2 A81.out).mono ?_); (case side1 => repeat (first | exact (Kd.C_below HR0_8.out HB.out) | (with_reducible refine Kd.C_alloc ?_ _) | (with_reducible refine Kd.C_drewN ?_ _) | (with_reducible refine Kd.C_drew ?_))); (case side2 => exact HC0_8.out); (case side3 => repeat (first | exact (GW.below HG.out HB.out) | (with_reducible refine GW.alloc ?_ _) | (with_reducible refine GW.drewN ?_ _) | (with_reducible refine GW.drew ?_))); rintro e w85 ⟨rfl, hb⟩; have n0_ := Aside0.mk (blk_below (g := gb335) (o := .cells #[.int .i64 a0_0, .int .i64 a0_1, .int .i64 a0_2, .int .i64 a0_3, .int .i64 a0_4, .string a0_5, .string a0_6, .string (⟨#[40, 41, 86]⟩ : ByteArray), .slice A0_8 l0_8.length c0_8] 44 (0, 0)) (by (with_reducible repeat (first | refine blk_drewN ?_ _ | refine blk_drew ?_ | refine blk_alloc ?_ _)); exact BK335.out) hb); have n1_ := Aside0.mk (below_step (by repeat (first | (with_reducible first | exact HB.out | apply below_alloc | apply pw_below_drewN | apply below_drew1 | refine below_set ?_ GE335.out) | exact HB.out)) hb); clear BK335; clear HB; have BK335 := n0_; have HB := n1_; clear n0_ n1_; (try clear hb); (try clear hb2); (try clear hk); (try clear hi)))
                                go_ret
                                exact ⟨by first | rfl | (simp [errW_none, errW_some] <;> rfl) | (simp only [← hji17]; first | rfl | (simp [errW_none, errW_some] <;> rfl)) | (simp [*, errW_none, errW_some] <;> rfl), by repeat (first | (with_reducible first | exact HB.out | apply below_alloc | apply pw_below_drewN | apply below_drew1 | refine below_set ?_ GE335.out) | exact HB.out)⟩
                              · replace c80 := Bool.eq_false_iff.mpr c80
                                subst c80
                                have H1 : (some false) = some r := by rw [if_neg (show ¬ (false = true) by decide)] at H; exact H
                                clear H
                                have H := H1
                                clear H1
                                obtain rfl := Option.some.inj H
                                cases HRT.out
                            · rw [if_neg c78] at H
                              have c78b0 : ((bt (⟨#[97, 98, 99, 67, 70, 77, 118]⟩ : ByteArray) (ji17)) == 77) = false := beq_eq_false_iff_ne.mpr c78
                              have c78b1 : ((bt (⟨#[97, 98, 99, 67, 70, 77, 118]⟩ : ByteArray) (ji17)) != 77) = true := bne_iff_ne.mpr c78
                              obtain ⟨y358, hy358⟩ : ∃ y_ : List Int, y_ = (([1] : List Int)) := ⟨_, rfl⟩
                              replace H : ((secateurlaw07_live.f kj21).bind fun t361 => (if t361 = true then ((op_Fits.f a0_0 a0_1 a0_2 a0_3 a0_4 a0_5 a0_6 a0_7 y358 32 256).bind fun t362 => (some (t362 == 1))) else (some false))) = some r := by first | (rw [hy358]; with_reducible exact H) | (have H2_ := (Option.bind_some _ _).symm.trans H; rw [hy358]; with_reducible exact H2_) | (have H2_ := (Option.bind_some _ _).symm.trans H; with_reducible exact H2_) | with_reducible exact H | (rw [hy358]; exact H) | exact H
                              have Ny358 := Aside0.mk hy358
                              clear hy358
                              replace H := Option.bind_eq_some_iff.mp H
                              obtain ⟨t361, A860, H⟩ := H
                              replace H : (if t361 = true then ((op_Fits.f a0_0 a0_1 a0_2 a0_3 a0_4 a0_5 a0_6 a0_7 y358 32 256).bind fun t362 => (some (t362 == 1))) else (some false)) = some r := H
                              have A86 := Aside0.mk A860
                              clear A860
                              by_cases c87 : t361 = true
                              · subst c87
                                have H1 : ((op_Fits.f a0_0 a0_1 a0_2 a0_3 a0_4 a0_5 a0_6 a0_7 y358 32 256).bind fun t362 => (some (t362 == 1))) = some r := by rw [if_pos rfl] at H; exact H
                                clear H
                                have H := H1
                                clear H1
                                replace H := Option.bind_eq_some_iff.mp H
                                obtain ⟨t362, A880, H⟩ := H
                                replace H : (some (t362 == 1)) = some r := H
                                have A88 := Aside0.mk A880
                                clear A880
                                obtain rfl := Option.some.inj H
                                simp only [Option.some.injEq, Prod.mk.injEq] at H
                                obtain ⟨rfl⟩ := H
                                go_wp2_with (first | ((with_reducible refine gate_dst (N := 51) rfl ?_); refine Kd.R_lit (Kd.int .i64) _ 3 ?hg (N := 51) ?hd (xs := ([1] : List Int)) (inner := [.int .i64 1]) (ok := fun _ => True) (okp := fun _ => True) ?hr ?hp (fun _ hk => hk) trivial (Below.refl _ _) (Nat.le_refl _) (by simp) ?_; (case hd => rfl); (case hg => rfl); (case hr => first | (go_simp; done) | (go_simp; rfl)); (case hp => exact (Reps.one (show Kd.M (Kd.int .i64) _ _ _ 1 [.int .i64 1] from rfl) (Reps.none _ _))); intro v359 w89 ho90 hb hg_ hnew_; clear hg_ hnew_; (first | rw [← Ny358.out] at ho90 | (simp only [Int.reduceToNat] at ho90; rw [← Ny358.out] at ho90)); have n0_ := Aside0.mk (Kd.R_lower ho90 (below_size (by repeat (first | (with_reducible first | exact HB.out | apply below_alloc | apply pw_below_drewN | apply below_drew1 | refine below_set ?_ GE335.out) | exact HB.out)))); have n1_ := Aside0.mk (blk_below (g := gb335) (o := .cells #[.int .i64 a0_0, .int .i64 a0_1, .int .i64 a0_2, .int .i64 a0_3, .int .i64 a0_4, .string a0_5, .string a0_6, .string a0_7, .slice A0_8 l0_8.length c0_8] 44 (0, 0)) (by (with_reducible repeat (first | refine blk_drewN ?_ _ | refine blk_drew ?_ | refine blk_alloc ?_ _)); exact BK335.out) hb); have n2_ := Aside0.mk (below_step (by repeat (first | (with_reducible first | exact HB.out | apply below_alloc | apply pw_below_drewN | apply below_drew1 | refine below_set ?_ GE335.out) | exact HB.out)) hb); clear BK335; clear HB; have HO360 := n0_; have BK335 := n1_; have HB := n2_; clear n0_ n1_ n2_; clear hb ho90; obtain ⟨Ao91, co91, eo91⟩ := Kd.R_slice HO360.out; subst eo91; have hcz92_0 : w89.cell? ⟨gb335, 0, none⟩ = some (.int .i64 a0_0) := (blk_cell BK335.out 0).trans rfl; have hcz92_1 : w89.cell? ⟨gb335, 1, none⟩ = some (.int .i64 a0_1) := (blk_cell BK335.out 1).trans rfl; have hcz92_2 : w89.cell? ⟨gb335, 2, none⟩ = some (.int .i64 a0_2) := (blk_cell BK335.out 2).trans rfl; have hcz92_3 : w89.cell? ⟨gb335, 3, none⟩ = some (.int .i64 a0_3) := (blk_cell BK335.out 3).trans rfl; have hcz92_4 : w89.cell? ⟨gb335, 4, none⟩ = some (.int .i64 a0_4) := (blk_cell BK335.out 4).trans rfl; have hcz92_5 : w89.cell? ⟨gb335, 5, none⟩ = some (.string a0_5) := (blk_cell BK335.out 5).trans rfl; have hcz92_6 : w89.cell? ⟨gb335, 6, none⟩ = some (.string a0_6) := (blk_cell BK335.out 6).trans rfl; have hcz92_7 : w89.cell? ⟨gb335, 7, none⟩ = some (.string a0_7) := (blk_cell BK335.out 7).trans rfl; have hcz92_8 : w89.cell? ⟨gb335, 8, none⟩ = some (.slice A0_8 l0_8.length c0_8) := (blk_cell BK335.out 8).trans rfl; have hfz92_0 := blk_frozen BK335.out 0; have hfz92_1 := blk_frozen BK335.out 1; have hfz92_2 := blk_frozen BK335.out 2; have hfz92_3 := blk_frozen BK335.out 3; have hfz92_4 := blk_frozen BK335.out 4; have hfz92_5 := blk_frozen BK335.out 5; have hfz92_6 := blk_frozen BK335.out 6; have hfz92_7 := blk_frozen BK335.out 7; have hfz92_8 := blk_frozen BK335.out 8) | ((with_reducible refine gate_callee (f := 16) rfl ?_); refine goesL_ (some 71) rfl rfl Tryd.func16 (by kernel_rfl) rfl #[] rfl (by (try simp only [List.map_toArray, List.map_cons, List.map_nil]); first | done | rfl | (simp only [List.length_drop, List.length_take]; rfl)) ?_; (with_reducible refine (secateurlaw07_live.calls kj21  true _ ?side1 A86.out).mono ?_); (case side1 => exact GW.below HG.out (by repeat (first | (with_reducible first | exact HB.out | apply below_alloc | apply pw_below_drewN | apply below_drew1 | refine below_set ?_ GE335.out) | exact HB.out))); rintro e w93 ⟨rfl, hb⟩; refine ⟨_, rfl, ?_⟩; have n0_ := Aside0.mk (Kd.R_below (by (with_reducible repeat (first | apply Kd.R_alloc | apply Kd.R_drewN | apply Kd.R_drew)); exact (Kd.R_mono (Kd.R_far (p := ⟨gb335, 8, none⟩) (Kd.R_types HO360.out BK335.out (by decide)) (fun _ hk => hk.2) (.slice Ao91 y358.length co91)) (fun _ h_ => h_.1))) hb); have n1_ := Aside0.mk (blk_below (g := gb335) (o := .cells #[.int .i64 a0_0, .int .i64 a0_1, .int .i64 a0_2, .int .i64 a0_3, .int .i64 a0_4, .string a0_5, .string a0_6, .string a0_7, .slice Ao91 y358.length co91] 44 (0, 0)) (by (with_reducible repeat (first | refine blk_drewN ?_ _ | refine blk_drew ?_ | refine blk_alloc ?_ _)); refine blk_put (cs := #[.int .i64 a0_0, .int .i64 a0_1, .int .i64 a0_2, .int .i64 a0_3, .int .i64 a0_4, .string a0_5, .string a0_6, .string a0_7, .slice A0_8 l0_8.length c0_8]) ?_ 8 _ rfl; (with_reducible repeat (first | refine blk_drewN ?_ _ | refine blk_drew ?_ | refine blk_alloc ?_ _)); exact BK335.out) hb); have n2_ := Aside0.mk (below_step (by repeat (first | (with_reducible first | exact HB.out | apply below_alloc | apply pw_below_drewN | apply below_drew1 | refine below_set ?_ GE335.out) | exact HB.out)) hb); clear HO360; clear BK335; clear HB; have HO360 := n0_; have BK335 := n1_; have HB := n2_; clear n0_ n1_ n2_; (try clear hb); (try clear hb2); (try clear hk); (try clear hi); have hcz94_0 : w93.cell? ⟨gb335, 0, none⟩ = some (.int .i64 a0_0) := (blk_cell BK335.out 0).trans rfl; have hcz94_1 : w93.cell? ⟨gb335, 1, none⟩ = some (.int .i64 a0_1) := (blk_cell BK335.out 1).trans rfl; have hcz94_2 : w93.cell? ⟨gb335, 2, none⟩ = some (.int .i64 a0_2) := (blk_cell BK335.out 2).trans rfl; have hcz94_3 : w93.cell? ⟨gb335, 3, none⟩ = some (.int .i64 a0_3) := (blk_cell BK335.out 3).trans rfl; have hcz94_4 : w93.cell? ⟨gb335, 4, none⟩ = some (.int .i64 a0_4) := (blk_cell BK335.out 4).trans rfl; have hcz94_5 : w93.cell? ⟨gb335, 5, none⟩ = some (.string a0_5) := (blk_cell BK335.out 5).trans rfl; have hcz94_6 : w93.cell? ⟨gb335, 6, none⟩ = some (.string a0_6) := (blk_cell BK335.out 6).trans rfl; have hcz94_7 : w93.cell? ⟨gb335, 7, none⟩ = some (.string a0_7) := (blk_cell BK335.out 7).trans rfl; have hcz94_8 : w93.cell? ⟨gb335, 8, none⟩ = some (.slice Ao91 y358.length co91) := (blk_cell BK335.out 8).trans rfl; have hfz94_0 := blk_frozen BK335.out 0; have hfz94_1 := blk_frozen BK335.out 1; have hfz94_2 := blk_frozen BK335.out 2; have hfz94_3 := blk_frozen BK335.out 3; have hfz94_4 := blk_frozen BK335.out 4; have hfz94_5 := blk_frozen BK335.out 5; have hfz94_6 := blk_frozen BK335.out 6; have hfz94_7 := blk_frozen BK335.out 7; have hfz94_8 := blk_frozen BK335.out 8) | (go_at_call 23; (with_reducible refine (op_Fits.calls a0_0 a0_1 a0_2 a0_3 a0_4 a0_5 a0_6 a0_7 _ _ y358 32 256 t362 _ ?side3 ?side1 ?side2 A88.out).mono ?_); (case side1 => repeat (first | exact (Kd.R_reads' HO360.out).2.2 | (with_reducible refine Kd.C_alloc ?_ _) | (with_reducible refine Kd.C_drewN ?_ _) | (with_reducible refine Kd.C_drew ?_))); (case side2 => exact (Kd.R_reads' HO360.out).2.1); (case side3 => repeat (first | exact (GW.below HG.out HB.out) | (with_reducible refine GW.alloc ?_ _) | (with_reducible refine GW.drewN ?_ _) | (with_reducible refine GW.drew ?_))); rintro e w95 ⟨rfl, hb⟩; have n0_ := Aside0.mk (Kd.R_below (by (with_reducible repeat (first | apply Kd.R_alloc | apply Kd.R_drewN | apply Kd.R_drew)); exact HO360.out) hb); have n1_ := Aside0.mk (blk_below (g := gb335) (o := .cells #[.int .i64 a0_0, .int .i64 a0_1, .int .i64 a0_2, .int .i64 a0_3, .int .i64 a0_4, .string a0_5, .string a0_6, .string a0_7, .slice Ao91 y358.length co91] 44 (0, 0)) (by (with_reducible repeat (first | refine blk_drewN ?_ _ | refine blk_drew ?_ | refine blk_alloc ?_ _)); exact BK335.out) hb); have n2_ := Aside0.mk (below_step (by repeat (first | (with_reducible first | exact HB.out | apply below_alloc | apply pw_below_drewN | apply below_drew1 | refine below_set ?_ GE335.out) | exact HB.out)) hb); clear HO360; clear BK335; clear HB; have HO360 := n0_; have BK335 := n1_; have HB := n2_; clear n0_ n1_ n2_; (try clear hb); (try clear hb2); (try clear hk); (try clear hi)))
                                go_ret
                                exact ⟨by first | rfl | (simp [errW_none, errW_some] <;> rfl) | (simp only [← hji17]; first | rfl | (simp [errW_none, errW_some] <;> rfl)) | (simp [*, errW_none, errW_some] <;> rfl), by repeat (first | (with_reducible first | exact HB.out | apply below_alloc | apply pw_below_drewN | apply below_drew1 | refine below_set ?_ GE335.out) | exact HB.out)⟩
                              · replace c87 := Bool.eq_false_iff.mpr c87
                                subst c87
                                have H1 : (some false) = some r := by rw [if_neg (show ¬ (false = true) by decide)] at H; exact H
                                clear H
                                have H := H1
                                clear H1
                                obtain rfl := Option.some.inj H
                                cases HRT.out
          · rw [if_neg c19] at H
            exact absurd H (by simp)
        · rw [if_neg c18] at H
          exact absurd H (by simp)

def secateurlaw07_OpLacks.f (k : Nat) (a0_0 : Int) (a0_1 : Int) (a0_2 : Int) (a0_3 : Int) (a0_4 : Int) (a0_5 : ByteArray) (a0_6 : ByteArray) (a0_7 : ByteArray) (l0_8 : List Int) (a1 : Int) : Option (Bool) := (secateurlaw07_OpLacks.g k a0_0 a0_1 a0_2 a0_3 a0_4 a0_5 a0_6 a0_7 l0_8 a1).bind fun r_ => if r_ = true then some true else none
theorem secateurlaw07_OpLacks.mono : ∀ a0 a1 a2 a3 a4 a5 a6 a7 a8 a9 k, LeO (secateurlaw07_OpLacks.f k a0 a1 a2 a3 a4 a5 a6 a7 a8 a9) (secateurlaw07_OpLacks.f (k + 1) a0 a1 a2 a3 a4 a5 a6 a7 a8 a9) := by
  intro a0 a1 a2 a3 a4 a5 a6 a7 a8 a9 k
  unfold secateurlaw07_OpLacks.f
  exact LeO.bind (secateurlaw07_OpLacks.gmono a0 a1 a2 a3 a4 a5 a6 a7 a8 a9 k) (fun _ => LeO.refl _)
theorem secateurlaw07_OpLacks.calls (k : Nat) (a0_0 : Int) (a0_1 : Int) (a0_2 : Int) (a0_3 : Int) (a0_4 : Int) (a0_5 : ByteArray) (a0_6 : ByteArray) (a0_7 : ByteArray) (A0_8 : Option Addr) (c0_8 : Nat) (l0_8 : List Int) (a1 : Int) (r : Bool) (w : World) (hG : GW w) (hr0_8 : Kd.C (Kd.int .i64) w A0_8 l0_8.length l0_8) (hc0_8 : l0_8.length ≤ c0_8) (h : secateurlaw07_OpLacks.f k a0_0 a0_1 a0_2 a0_3 a0_4 a0_5 a0_6 a0_7 l0_8 a1 = some r) :
    Calls Tryd.prog 8 #[.agg #[.int .i64 a0_0, .int .i64 a0_1, .int .i64 a0_2, .int .i64 a0_3, .int .i64 a0_4, .string a0_5, .string a0_6, .string a0_7, .slice A0_8 l0_8.length c0_8], .int .u8 a1] w fun e w' => e = .returned (.bool r) ∧ Below w.heap.size w w' := by
  obtain ⟨r_, h1, h2⟩ := Option.bind_eq_some_iff.mp h
  split at h2
  · rename_i hr_
    obtain rfl := Option.some.inj h2
    subst hr_
    exact secateurlaw07_OpLacks.gcalls k a0_0 a0_1 a0_2 a0_3 a0_4 a0_5 a0_6 a0_7 A0_8 c0_8 l0_8 a1 _ w hG hr0_8 hc0_8 h1 rfl
  · cases h2
end Go.Proofs.YtmamaijiphdggaaDoor.POp
