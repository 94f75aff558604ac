/- Part of a proof of this seat's statements: plain functions, contracts and rows, written by a program (the kit's printer, some functions given by hand) out of the translation; no conditions of its own. -/
import Derived.Test.YtbdaledkkbkhgaaPGlobx0
namespace Go.Proofs.Ytbdaledkkbkhgaa.PGlob
open Go.RowKit Go.Proofs.YtbdaledkkbkhgaaW.PrintWords Go.Proofs.YtbdaledkkbkhgaaW.PrintLast Go.Proofs.YtbdaledkkbkhgaaW.PrintMore
attribute [local go_sem] max2_int min2_int max_two min_two max_three min_three max_four min_four   -- for this text's walks alone
set_option linter.unusedVariables false
set_option linter.unusedSimpArgs false

/-! ### secateurref21_Meets: function 22 -/
mutual
def secateurref21_Meets.l0 : Nat → ByteArray → ByteArray → List Bool → Int → Option (Bool)
  | 0, _, _, _, _ => none
  | k + 1, x0, x1, x5, x6 => if x6 ≥ 0 then (if 0 ≤ (wrap64 ((x1.size : Int) + 1)) then (if (wrap64 ((x1.size : Int) + 1) : Int).toNat ≤ 281474976710656 then (secateurref21_Meets.l1 k x0 x1 x5 x6 (List.replicate (wrap64 ((x1.size : Int) + 1) : Int).toNat false) (x1.size : Int)) else (none)) else (none)) else (if 0 < (x5.length : Int) then (some (rdOf false x5 0)) else (none))
def secateurref21_Meets.l1 : Nat → ByteArray → ByteArray → List Bool → Int → List Bool → Int → Option (Bool)
  | 0, _, _, _, _, _, _ => none
  | k + 1, x0, x1, x5, x6, x7, x8 => if x8 ≥ 0 then (if x6 = (x0.size : Int) then (secateurref21_Meets.j2 k x0 x1 x5 x6 x7 x8 (x8 == (x1.size : Int))) else (secateurref21_Meets.j2 k x0 x1 x5 x6 x7 x8 false)) else (secateurref21_Meets.l0 k x0 x1 x7 (wrap64 (x6 - 1)))
def secateurref21_Meets.j2 : Nat → ByteArray → ByteArray → List Bool → Int → List Bool → Int → Bool → Option (Bool)
  | 0, _, _, _, _, _, _, _ => none
  | k + 1, x0, x1, x5, x6, x7, x8, x29 => if x29 = true then (if 0 ≤ x8 then (if x8 < (x7.length : Int) then (secateurref21_Meets.l1 k x0 x1 x5 x6 (x7.set (x8 : Int).toNat true) (wrap64 (x8 - 1))) else (none)) else (none)) else (if x6 < (x0.size : Int) then (if 0 ≤ x6 then (secateurref21_Meets.j3 k x0 x1 x5 x6 x7 x8 ((bt x0 x6) == 42)) else (none)) else (secateurref21_Meets.j3 k x0 x1 x5 x6 x7 x8 false))
def secateurref21_Meets.j3 : Nat → ByteArray → ByteArray → List Bool → Int → List Bool → Int → Bool → Option (Bool)
  | 0, _, _, _, _, _, _, _ => none
  | k + 1, x0, x1, x5, x6, x7, x8, x43 => if x43 = true then (if 0 ≤ x8 then (if x8 < (x5.length : Int) then (if rdOf false x5 x8 = true then (if x8 < (x7.length : Int) then (secateurref21_Meets.l1 k x0 x1 x5 x6 (x7.set (x8 : Int).toNat true) (wrap64 (x8 - 1))) else (none)) else (if x8 < (x1.size : Int) then (if 0 ≤ (wrap64 (x8 + 1)) then (if (wrap64 (x8 + 1)) < (x7.length : Int) then (if x8 < (x7.length : Int) then (secateurref21_Meets.l1 k x0 x1 x5 x6 (x7.set (x8 : Int).toNat (rdOf false x7 (wrap64 (x8 + 1)))) (wrap64 (x8 - 1))) else (none)) else (none)) else (none)) else (if x8 < (x7.length : Int) then (secateurref21_Meets.l1 k x0 x1 x5 x6 (x7.set (x8 : Int).toNat false) (wrap64 (x8 - 1))) else (none)))) else (none)) else (none)) else (if x8 < (x1.size : Int) then (if 0 ≤ x8 then (secateurref21_Meets.j4 k x0 x1 x5 x6 x7 x8 ((bt x1 x8) == 42)) else (none)) else (secateurref21_Meets.j4 k x0 x1 x5 x6 x7 x8 false))
def secateurref21_Meets.j4 : Nat → ByteArray → ByteArray → List Bool → Int → List Bool → Int → Bool → Option (Bool)
  | 0, _, _, _, _, _, _, _ => none
  | k + 1, x0, x1, x5, x6, x7, x8, x74 => if x74 = true then (if 0 ≤ (wrap64 (x8 + 1)) then (if (wrap64 (x8 + 1)) < (x7.length : Int) then (if rdOf false x7 (wrap64 (x8 + 1)) = true then (if 0 ≤ x8 then (if x8 < (x7.length : Int) then (secateurref21_Meets.l1 k x0 x1 x5 x6 (x7.set (x8 : Int).toNat true) (wrap64 (x8 - 1))) else (none)) else (none)) else (if x6 < (x0.size : Int) then (if 0 ≤ x8 then (if x8 < (x5.length : Int) then (if x8 < (x7.length : Int) then (secateurref21_Meets.l1 k x0 x1 x5 x6 (x7.set (x8 : Int).toNat (rdOf false x5 x8)) (wrap64 (x8 - 1))) else (none)) else (none)) else (none)) else (if 0 ≤ x8 then (if x8 < (x7.length : Int) then (secateurref21_Meets.l1 k x0 x1 x5 x6 (x7.set (x8 : Int).toNat false) (wrap64 (x8 - 1))) else (none)) else (none)))) else (none)) else (none)) else (if x6 < (x0.size : Int) then (if x8 < (x1.size : Int) then (if 0 ≤ x6 then (if (bt x0 x6) = 63 then (if 0 ≤ (wrap64 (x8 + 1)) then (if (wrap64 (x8 + 1)) < (x5.length : Int) then (if 0 ≤ x8 then (if x8 < (x7.length : Int) then (secateurref21_Meets.l1 k x0 x1 x5 x6 (x7.set (x8 : Int).toNat (rdOf false x5 (wrap64 (x8 + 1)))) (wrap64 (x8 - 1))) else (none)) else (none)) else (none)) else (none)) else (if 0 ≤ x8 then (if (bt x1 x8) = 63 then (if 0 ≤ (wrap64 (x8 + 1)) then (if (wrap64 (x8 + 1)) < (x5.length : Int) then (if x8 < (x7.length : Int) then (secateurref21_Meets.l1 k x0 x1 x5 x6 (x7.set (x8 : Int).toNat (rdOf false x5 (wrap64 (x8 + 1)))) (wrap64 (x8 - 1))) else (none)) else (none)) else (none)) else (if (bt x0 x6) = (bt x1 x8) then (if 0 ≤ (wrap64 (x8 + 1)) then (if (wrap64 (x8 + 1)) < (x5.length : Int) then (if x8 < (x7.length : Int) then (secateurref21_Meets.l1 k x0 x1 x5 x6 (x7.set (x8 : Int).toNat (rdOf false x5 (wrap64 (x8 + 1)))) (wrap64 (x8 - 1))) else (none)) else (none)) else (none)) else (secateurref21_Meets.l1 k x0 x1 x5 x6 x7 (wrap64 (x8 - 1))))) else (none))) else (none)) else (secateurref21_Meets.l1 k x0 x1 x5 x6 x7 (wrap64 (x8 - 1)))) else (secateurref21_Meets.l1 k x0 x1 x5 x6 x7 (wrap64 (x8 - 1))))
end
def secateurref21_Meets.f (k : Nat) (a0 : ByteArray) (a1 : ByteArray) : Option (Bool) := if 0 ≤ (wrap64 ((a1.size : Int) + 1)) then (if (wrap64 ((a1.size : Int) + 1) : Int).toNat ≤ 281474976710656 then (secateurref21_Meets.l0 k a0 a1 (List.replicate (wrap64 ((a1.size : Int) + 1) : Int).toNat false) (a0.size : Int)) else (none)) else (none)
theorem secateurref21_Meets.mono_l : ∀ k, (∀ y0 y1 y2 y3, LeO (secateurref21_Meets.l0 k y0 y1 y2 y3) (secateurref21_Meets.l0 (k + 1) y0 y1 y2 y3)) ∧ (∀ y0 y1 y2 y3 y4 y5, LeO (secateurref21_Meets.l1 k y0 y1 y2 y3 y4 y5) (secateurref21_Meets.l1 (k + 1) y0 y1 y2 y3 y4 y5)) ∧ (∀ y0 y1 y2 y3 y4 y5 y6, LeO (secateurref21_Meets.j2 k y0 y1 y2 y3 y4 y5 y6) (secateurref21_Meets.j2 (k + 1) y0 y1 y2 y3 y4 y5 y6)) ∧ (∀ y0 y1 y2 y3 y4 y5 y6, LeO (secateurref21_Meets.j3 k y0 y1 y2 y3 y4 y5 y6) (secateurref21_Meets.j3 (k + 1) y0 y1 y2 y3 y4 y5 y6)) ∧ (∀ y0 y1 y2 y3 y4 y5 y6, LeO (secateurref21_Meets.j4 k y0 y1 y2 y3 y4 y5 y6) (secateurref21_Meets.j4 (k + 1) y0 y1 y2 y3 y4 y5 y6))
  | 0 => ⟨fun _ _ _ _ r h => by simp [secateurref21_Meets.l0] at h, fun _ _ _ _ _ _ r h => by simp [secateurref21_Meets.l1] at h, fun _ _ _ _ _ _ _ r h => by simp [secateurref21_Meets.j2] at h, fun _ _ _ _ _ _ _ r h => by simp [secateurref21_Meets.j3] at h, fun _ _ _ _ _ _ _ r h => by simp [secateurref21_Meets.j4] at h⟩
  | k + 1 => by
    obtain ⟨ih0, ih1, ih2, ih3, ih4⟩ := secateurref21_Meets.mono_l k
    refine ⟨?_, ?_, ?_, ?_, ?_⟩
    · intro y0 y1 y2 y3
      unfold secateurref21_Meets.l0
      repeat' first
      | (with_reducible exact ih0 _ _ _ _)
      | (with_reducible exact ih1 _ _ _ _ _ _)
      | (with_reducible exact ih2 _ _ _ _ _ _ _)
      | (with_reducible exact ih3 _ _ _ _ _ _ _)
      | (with_reducible exact ih4 _ _ _ _ _ _ _)
      | (with_reducible exact LeO.refl _)
      | (with_reducible exact LeO.none _)
      | (with_reducible refine LeO.ite ?_ ?_)
      | (with_reducible refine LeO.bind ?_ (fun _ => ?_))
      | exact ih0 _ _ _ _
      | exact ih1 _ _ _ _ _ _
      | exact ih2 _ _ _ _ _ _ _
      | exact ih3 _ _ _ _ _ _ _
      | exact ih4 _ _ _ _ _ _ _
      | exact LeO.none _
      | refine LeO.ite ?_ ?_
      | refine LeO.bind ?_ (fun _ => ?_)
    · intro y0 y1 y2 y3 y4 y5
      unfold secateurref21_Meets.l1
      repeat' first
      | (with_reducible exact ih0 _ _ _ _)
      | (with_reducible exact ih1 _ _ _ _ _ _)
      | (with_reducible exact ih2 _ _ _ _ _ _ _)
      | (with_reducible exact ih3 _ _ _ _ _ _ _)
      | (with_reducible exact ih4 _ _ _ _ _ _ _)
      | (with_reducible exact LeO.refl _)
      | (with_reducible exact LeO.none _)
      | (with_reducible refine LeO.ite ?_ ?_)
      | (with_reducible refine LeO.bind ?_ (fun _ => ?_))
      | exact ih0 _ _ _ _
      | exact ih1 _ _ _ _ _ _
      | exact ih2 _ _ _ _ _ _ _
      | exact ih3 _ _ _ _ _ _ _
      | exact ih4 _ _ _ _ _ _ _
      | exact LeO.none _
      | refine LeO.ite ?_ ?_
      | refine LeO.bind ?_ (fun _ => ?_)
    · intro y0 y1 y2 y3 y4 y5 y6
      unfold secateurref21_Meets.j2
      repeat' first
      | (with_reducible exact ih0 _ _ _ _)
      | (with_reducible exact ih1 _ _ _ _ _ _)
      | (with_reducible exact ih2 _ _ _ _ _ _ _)
      | (with_reducible exact ih3 _ _ _ _ _ _ _)
      | (with_reducible exact ih4 _ _ _ _ _ _ _)
      | (with_reducible exact LeO.refl _)
      | (with_reducible exact LeO.none _)
      | (with_reducible refine LeO.ite ?_ ?_)
      | (with_reducible refine LeO.bind ?_ (fun _ => ?_))
      | exact ih0 _ _ _ _
      | exact ih1 _ _ _ _ _ _
      | exact ih2 _ _ _ _ _ _ _
      | exact ih3 _ _ _ _ _ _ _
      | exact ih4 _ _ _ _ _ _ _
      | exact LeO.none _
      | refine LeO.ite ?_ ?_
      | refine LeO.bind ?_ (fun _ => ?_)
    · intro y0 y1 y2 y3 y4 y5 y6
      unfold secateurref21_Meets.j3
      repeat' first
      | (with_reducible exact ih0 _ _ _ _)
      | (with_reducible exact ih1 _ _ _ _ _ _)
      | (with_reducible exact ih2 _ _ _ _ _ _ _)
      | (with_reducible exact ih3 _ _ _ _ _ _ _)
      | (with_reducible exact ih4 _ _ _ _ _ _ _)
      | (with_reducible exact LeO.refl _)
      | (with_reducible exact LeO.none _)
      | (with_reducible refine LeO.ite ?_ ?_)
      | (with_reducible refine LeO.bind ?_ (fun _ => ?_))
      | exact ih0 _ _ _ _
      | exact ih1 _ _ _ _ _ _
      | exact ih2 _ _ _ _ _ _ _
      | exact ih3 _ _ _ _ _ _ _
      | exact ih4 _ _ _ _ _ _ _
      | exact LeO.none _
      | refine LeO.ite ?_ ?_
      | refine LeO.bind ?_ (fun _ => ?_)
    · intro y0 y1 y2 y3 y4 y5 y6
      unfold secateurref21_Meets.j4
      repeat' first
      | (with_reducible exact ih0 _ _ _ _)
      | (with_reducible exact ih1 _ _ _ _ _ _)
      | (with_reducible exact ih2 _ _ _ _ _ _ _)
      | (with_reducible exact ih3 _ _ _ _ _ _ _)
      | (with_reducible exact ih4 _ _ _ _ _ _ _)
      | (with_reducible exact LeO.refl _)
      | (with_reducible exact LeO.none _)
      | (with_reducible refine LeO.ite ?_ ?_)
      | (with_reducible refine LeO.bind ?_ (fun _ => ?_))
      | exact ih0 _ _ _ _
      | exact ih1 _ _ _ _ _ _
      | exact ih2 _ _ _ _ _ _ _
      | exact ih3 _ _ _ _ _ _ _
      | exact ih4 _ _ _ _ _ _ _
      | exact LeO.none _
      | refine LeO.ite ?_ ?_
      | refine LeO.bind ?_ (fun _ => ?_)
theorem secateurref21_Meets.mono : ∀ a0 a1 k, LeO (secateurref21_Meets.f k a0 a1) (secateurref21_Meets.f (k + 1) a0 a1) := by
  intro a0 a1 k
  obtain ⟨ih0, ih1, ih2, ih3, ih4⟩ := secateurref21_Meets.mono_l k
  unfold secateurref21_Meets.f
  repeat' first
      | (with_reducible exact ih0 _ _ _ _)
      | (with_reducible exact ih1 _ _ _ _ _ _)
      | (with_reducible exact ih2 _ _ _ _ _ _ _)
      | (with_reducible exact ih3 _ _ _ _ _ _ _)
      | (with_reducible exact ih4 _ _ _ _ _ _ _)
      | (with_reducible exact LeO.refl _)
      | (with_reducible exact LeO.none _)
      | (with_reducible refine LeO.ite ?_ ?_)
      | (with_reducible refine LeO.bind ?_ (fun _ => ?_))
      | exact ih0 _ _ _ _
      | exact ih1 _ _ _ _ _ _
      | exact ih2 _ _ _ _ _ _ _
      | exact ih3 _ _ _ _ _ _ _
      | exact ih4 _ _ _ _ _ _ _
      | exact LeO.none _
      | refine LeO.ite ?_ ?_
      | refine LeO.bind ?_ (fun _ => ?_)
set_option maxHeartbeats 8000000 in
set_option maxRecDepth 100000 in
theorem secateurref21_Meets.calls (k : Nat) (a0 : ByteArray) (a1 : ByteArray) (r : Bool) (w : World) (h : secateurref21_Meets.f k a0 a1 = some r) :
    Calls Try.prog 22 #[.string a0, .string a1] w fun e w' => e = .returned (.bool r) ∧ Below w.heap.size w w' := by
  have HB := Aside0.mk (Below.refl w.heap.size w)
  have H : (if 0 ≤ (wrap64 ((a1.size : Int) + 1)) then (if (wrap64 ((a1.size : Int) + 1) : Int).toNat ≤ 281474976710656 then (secateurref21_Meets.l0 k a0 a1 (List.replicate (wrap64 ((a1.size : Int) + 1) : Int).toNat false) (a0.size : Int)) else (none)) else (none)) = some r := h
  clear h
  obtain ⟨ji3, hji3⟩ : ∃ j_ : Int, (wrap64 ((a1.size : Int) + 1)) = j_ := ⟨_, rfl⟩
  replace H : (if 0 ≤ (ji3) then (if (ji3 : Int).toNat ≤ 281474976710656 then (secateurref21_Meets.l0 k a0 a1 (List.replicate (ji3 : Int).toNat false) (a0.size : Int)) else (none)) else (none)) = some r := by first | (rw [hji3] at H; exact H) | (simp only [hji3] at H ⊢; exact H)
  have hji3w : (IntKind.i64.wrap ((a1.size : Int) + 1)) = ji3 := (i64_w _).trans hji3
  by_cases c4 : 0 ≤ (ji3)
  · rw [if_pos c4] at H
    have c4b0 := eq_true c4
    have c4b1 : decide (0 ≤ (ji3)) = true := decide_eq_true c4
    clear c4
    by_cases c5 : (ji3 : Int).toNat ≤ 281474976710656
    · rw [if_pos c5] at H
      have c5b0 := eq_true c5
      have c5b1 : decide ((ji3 : Int).toNat ≤ 281474976710656) = true := decide_eq_true c5
      clear c5
      obtain ⟨y215, hy215⟩ : ∃ y_ : List Bool, y_ = (List.replicate (ji3 : Int).toNat false) := ⟨_, rfl⟩
      replace H : (secateurref21_Meets.l0 k a0 a1 y215 (a0.size : Int)) = some r := by first | (rw [hy215]; with_reducible exact H) | (have H2_ := (Option.bind_some _ _).symm.trans H; rw [hy215]; with_reducible exact H2_) | (have H2_ := (Option.bind_some _ _).symm.trans H; with_reducible exact H2_) | with_reducible exact H | (rw [hy215]; exact H) | exact H
      have Ny215 := Aside0.mk hy215
      clear hy215
      have H' := Aside0.mk H
      clear H
      go_enter Try.func22, Try.ntmps22
      go_wp2_with (first | ((with_reducible refine gate_dst (N := 12) rfl ?_); (try (refine gate_guard (by rfl) ?_; dsimp only)); refine Kd.R_make Kd.bool _ 4 rfl (N := 12) rfl 32 _ _ rfl ji3 rfl rfl Try.underlying32 (.bool false) 1 info4 rfl (by decide) (by omega) false (ok := fun _ => True) (okp := fun _ => True) rfl (fun _ hk => hk) trivial (of_decide_eq_true (by first | (with_reducible assumption) | assumption)) (Nat.le_trans (Nat.mul_le_mul_right _ (of_decide_eq_true (by first | (with_reducible assumption) | assumption) : ji3.toNat ≤ 281474976710656)) (by omega)) (Below.refl _ _) (Nat.le_refl _) ?_; intro v216 w6 ho7 hb hg_ hnew_; clear hg_ hnew_; (first | rw [← Ny215.out] at ho7 | (simp only [Int.reduceToNat] at ho7; rw [← Ny215.out] at ho7)); have n0_ := Aside0.mk (Kd.R_lower ho7 (below_size (by repeat (first | (with_reducible first | exact HB.out | apply below_alloc | apply pw_below_drewN | apply below_drew1) | exact HB.out)))); have n1_ := Aside0.mk (below_step (by repeat (first | (with_reducible first | exact HB.out | apply below_alloc | apply pw_below_drewN | apply below_drew1) | exact HB.out)) hb); clear HB; have HO217 := n0_; have HB := n1_; clear n0_ n1_; clear hb ho7))
      repeat (go_quiet (first | ((with_reducible refine gate_dst (N := 12) rfl ?_); (try (refine gate_guard (by rfl) ?_; dsimp only)); refine Kd.R_make Kd.bool _ 4 rfl (N := 12) rfl 32 _ _ rfl ji3 rfl rfl Try.underlying32 (.bool false) 1 info4 rfl (by decide) (by omega) false (ok := fun _ => True) (okp := fun _ => True) rfl (fun _ hk => hk) trivial (of_decide_eq_true (by first | (with_reducible assumption) | assumption)) (Nat.le_trans (Nat.mul_le_mul_right _ (of_decide_eq_true (by first | (with_reducible assumption) | assumption) : ji3.toNat ≤ 281474976710656)) (by omega)) (Below.refl _ _) (Nat.le_refl _) ?_; intro v216 w6 ho7 hb hg_ hnew_; clear hg_ hnew_; (first | rw [← Ny215.out] at ho7 | (simp only [Int.reduceToNat] at ho7; rw [← Ny215.out] at ho7)); have n0_ := Aside0.mk (Kd.R_lower ho7 (below_size (by repeat (first | (with_reducible first | exact HB.out | apply below_alloc | apply pw_below_drewN | apply below_drew1) | exact HB.out)))); have n1_ := Aside0.mk (below_step (by repeat (first | (with_reducible first | exact HB.out | apply below_alloc | apply pw_below_drewN | apply below_drew1) | exact HB.out)) hb); clear HB; have HO217 := n0_; have HB := n1_; clear n0_ n1_; clear hb ho7)); try go_wp2_with (first | ((with_reducible refine gate_dst (N := 12) rfl ?_); (try (refine gate_guard (by rfl) ?_; dsimp only)); refine Kd.R_make Kd.bool _ 4 rfl (N := 12) rfl 32 _ _ rfl ji3 rfl rfl Try.underlying32 (.bool false) 1 info4 rfl (by decide) (by omega) false (ok := fun _ => True) (okp := fun _ => True) rfl (fun _ hk => hk) trivial (of_decide_eq_true (by first | (with_reducible assumption) | assumption)) (Nat.le_trans (Nat.mul_le_mul_right _ (of_decide_eq_true (by first | (with_reducible assumption) | assumption) : ji3.toNat ≤ 281474976710656)) (by omega)) (Below.refl _ _) (Nat.le_refl _) ?_; intro v216 w6 ho7 hb hg_ hnew_; clear hg_ hnew_; (first | rw [← Ny215.out] at ho7 | (simp only [Int.reduceToNat] at ho7; rw [← Ny215.out] at ho7)); have n0_ := Aside0.mk (Kd.R_lower ho7 (below_size (by repeat (first | (with_reducible first | exact HB.out | apply below_alloc | apply pw_below_drewN | apply below_drew1) | exact HB.out)))); have n1_ := Aside0.mk (below_step (by repeat (first | (with_reducible first | exact HB.out | apply below_alloc | apply pw_below_drewN | apply below_drew1) | exact HB.out)) hb); clear HB; have HO217 := n0_; have HB := n1_; clear n0_ n1_; clear hb ho7)))
      go_loopg [5, 6] k (fun kq v5 v6 w' => ∃ (x5_1 : List Bool) (x6_1 : Int), v6 = .int .i64 x6_1 ∧ Aside0 (secateurref21_Meets.l0 kq a0 a1 x5_1 x6_1 = some r) ∧ Aside0 (kq ≤ k) ∧ Aside0 (Kd.R Kd.bool 4 w' w.heap.size (fun _ => True) v5 x5_1) ∧ Aside0 (Below w.heap.size w w'))
      case atStart => exact ⟨(y215), ((a0.size : Int)), (by first | rfl | (simp; done) | (simp [*]; done)), H', ⟨Nat.le_refl _⟩, ⟨by (with_reducible repeat (first | apply Kd.R_alloc | apply Kd.R_drewN | apply Kd.R_drew)); exact HO217.out⟩, ⟨by repeat (first | (with_reducible first | exact HB.out | apply below_alloc | apply pw_below_drewN | apply below_drew1) | exact HB.out)⟩⟩
      case round =>
        clear H'
        try clear c2
        try clear p2
        try clear c4
        try clear c4b0
        try clear c4b1
        try clear c5
        try clear c5b0
        try clear c5b1
        try clear p6
        obtain ⟨x5_1, x6_1, rfl, HA, HK1, HO_5, HB⟩ := hrel
        cases gk with
        | zero => exact absurd HA.out (by simp [secateurref21_Meets.l0])
        | succ k1 =>
          have H := HA.out
          clear HA
          simp only [secateurref21_Meets.l0] at H
          by_cases c8 : x6_1 ≥ 0
          · rw [if_pos c8] at H
            have c8b0 : decide (0 ≤ x6_1) = true := decide_eq_true c8
            clear c8
            try clear hji3w
            try clear hji3
            obtain ⟨ji9, hji9⟩ : ∃ j_ : Int, (wrap64 ((a1.size : Int) + 1)) = j_ := ⟨_, rfl⟩
            replace H : (if 0 ≤ (ji9) then (if (ji9 : Int).toNat ≤ 281474976710656 then (secateurref21_Meets.l1 k1 a0 a1 x5_1 x6_1 (List.replicate (ji9 : Int).toNat false) (a1.size : Int)) else (none)) else (none)) = some r := by first | (rw [hji9] at H; exact H) | (simp only [hji9] at H ⊢; exact H)
            have hji9w : (IntKind.i64.wrap ((a1.size : Int) + 1)) = ji9 := (i64_w _).trans hji9
            by_cases c10 : 0 ≤ (ji9)
            · rw [if_pos c10] at H
              have c10b0 := eq_true c10
              have c10b1 : decide (0 ≤ (ji9)) = true := decide_eq_true c10
              clear c10
              by_cases c11 : (ji9 : Int).toNat ≤ 281474976710656
              · rw [if_pos c11] at H
                have c11b0 := eq_true c11
                have c11b1 : decide ((ji9 : Int).toNat ≤ 281474976710656) = true := decide_eq_true c11
                clear c11
                obtain ⟨y219, hy219⟩ : ∃ y_ : List Bool, y_ = (List.replicate (ji9 : Int).toNat false) := ⟨_, rfl⟩
                replace H : (secateurref21_Meets.l1 k1 a0 a1 x5_1 x6_1 y219 (a1.size : Int)) = some r := by first | (rw [hy219]; with_reducible exact H) | (have H2_ := (Option.bind_some _ _).symm.trans H; rw [hy219]; with_reducible exact H2_) | (have H2_ := (Option.bind_some _ _).symm.trans H; with_reducible exact H2_) | with_reducible exact H | (rw [hy219]; exact H) | exact H
                have Ny219 := Aside0.mk hy219
                clear hy219
                have H' := Aside0.mk H
                clear H
                go_wp2_with (first | ((with_reducible refine gate_dst (N := 22) rfl ?_); (try (refine gate_guard (by rfl) ?_; dsimp only)); refine Kd.R_make Kd.bool _ 4 rfl (N := 22) rfl 32 _ _ rfl ji9 rfl rfl Try.underlying32 (.bool false) 1 info4 rfl (by decide) (by omega) false (ok := fun _ => True) (okp := fun _ => True) rfl (fun _ hk => hk) trivial (of_decide_eq_true (by first | (with_reducible assumption) | assumption)) (Nat.le_trans (Nat.mul_le_mul_right _ (of_decide_eq_true (by first | (with_reducible assumption) | assumption) : ji9.toNat ≤ 281474976710656)) (by omega)) (Below.refl _ _) (Nat.le_refl _) ?_; intro v220 w12 ho13 hb hg_ hnew_; clear hg_ hnew_; (first | rw [← Ny219.out] at ho13 | (simp only [Int.reduceToNat] at ho13; rw [← Ny219.out] at ho13)); have n0_ := Aside0.mk (Kd.R_elder' (by (with_reducible repeat (first | apply Kd.R_alloc | apply Kd.R_drewN | apply Kd.R_drew)); exact HO_5.out) (Kd.R_base ho13) hb); have n1_ := Aside0.mk (Kd.R_lower (Kd.R_new' ho13 (Kd.R_lt (by (with_reducible repeat (first | apply Kd.R_alloc | apply Kd.R_drewN | apply Kd.R_drew)); exact HO_5.out))) (below_size (by repeat (first | (with_reducible first | exact HB.out | apply below_alloc | apply pw_below_drewN | apply below_drew1) | exact HB.out)))); have n2_ := Aside0.mk (below_step (by repeat (first | (with_reducible first | exact HB.out | apply below_alloc | apply pw_below_drewN | apply below_drew1) | exact HB.out)) hb); clear HO_5; clear HB; have HO_5 := n0_; have HO221 := n1_; have HB := n2_; clear n0_ n1_ n2_; clear hb ho13))
                repeat (go_quiet (first | ((with_reducible refine gate_dst (N := 22) rfl ?_); (try (refine gate_guard (by rfl) ?_; dsimp only)); refine Kd.R_make Kd.bool _ 4 rfl (N := 22) rfl 32 _ _ rfl ji9 rfl rfl Try.underlying32 (.bool false) 1 info4 rfl (by decide) (by omega) false (ok := fun _ => True) (okp := fun _ => True) rfl (fun _ hk => hk) trivial (of_decide_eq_true (by first | (with_reducible assumption) | assumption)) (Nat.le_trans (Nat.mul_le_mul_right _ (of_decide_eq_true (by first | (with_reducible assumption) | assumption) : ji9.toNat ≤ 281474976710656)) (by omega)) (Below.refl _ _) (Nat.le_refl _) ?_; intro v220 w12 ho13 hb hg_ hnew_; clear hg_ hnew_; (first | rw [← Ny219.out] at ho13 | (simp only [Int.reduceToNat] at ho13; rw [← Ny219.out] at ho13)); have n0_ := Aside0.mk (Kd.R_elder' (by (with_reducible repeat (first | apply Kd.R_alloc | apply Kd.R_drewN | apply Kd.R_drew)); exact HO_5.out) (Kd.R_base ho13) hb); have n1_ := Aside0.mk (Kd.R_lower (Kd.R_new' ho13 (Kd.R_lt (by (with_reducible repeat (first | apply Kd.R_alloc | apply Kd.R_drewN | apply Kd.R_drew)); exact HO_5.out))) (below_size (by repeat (first | (with_reducible first | exact HB.out | apply below_alloc | apply pw_below_drewN | apply below_drew1) | exact HB.out)))); have n2_ := Aside0.mk (below_step (by repeat (first | (with_reducible first | exact HB.out | apply below_alloc | apply pw_below_drewN | apply below_drew1) | exact HB.out)) hb); clear HO_5; clear HB; have HO_5 := n0_; have HO221 := n1_; have HB := n2_; clear n0_ n1_ n2_; clear hb ho13)); try go_wp2_with (first | ((with_reducible refine gate_dst (N := 22) rfl ?_); (try (refine gate_guard (by rfl) ?_; dsimp only)); refine Kd.R_make Kd.bool _ 4 rfl (N := 22) rfl 32 _ _ rfl ji9 rfl rfl Try.underlying32 (.bool false) 1 info4 rfl (by decide) (by omega) false (ok := fun _ => True) (okp := fun _ => True) rfl (fun _ hk => hk) trivial (of_decide_eq_true (by first | (with_reducible assumption) | assumption)) (Nat.le_trans (Nat.mul_le_mul_right _ (of_decide_eq_true (by first | (with_reducible assumption) | assumption) : ji9.toNat ≤ 281474976710656)) (by omega)) (Below.refl _ _) (Nat.le_refl _) ?_; intro v220 w12 ho13 hb hg_ hnew_; clear hg_ hnew_; (first | rw [← Ny219.out] at ho13 | (simp only [Int.reduceToNat] at ho13; rw [← Ny219.out] at ho13)); have n0_ := Aside0.mk (Kd.R_elder' (by (with_reducible repeat (first | apply Kd.R_alloc | apply Kd.R_drewN | apply Kd.R_drew)); exact HO_5.out) (Kd.R_base ho13) hb); have n1_ := Aside0.mk (Kd.R_lower (Kd.R_new' ho13 (Kd.R_lt (by (with_reducible repeat (first | apply Kd.R_alloc | apply Kd.R_drewN | apply Kd.R_drew)); exact HO_5.out))) (below_size (by repeat (first | (with_reducible first | exact HB.out | apply below_alloc | apply pw_below_drewN | apply below_drew1) | exact HB.out)))); have n2_ := Aside0.mk (below_step (by repeat (first | (with_reducible first | exact HB.out | apply below_alloc | apply pw_below_drewN | apply below_drew1) | exact HB.out)) hb); clear HO_5; clear HB; have HO_5 := n0_; have HO221 := n1_; have HB := n2_; clear n0_ n1_ n2_; clear hb ho13)))
                go_loopg [8] k1 (fun kq v8 w' => ∃ (x7_2 : List Bool) (x8_2 : Int), v8 = .int .i64 x8_2 ∧ Aside0 (secateurref21_Meets.l1 kq a0 a1 x5_1 x6_1 x7_2 x8_2 = some r) ∧ Aside0 (kq ≤ k1) ∧ Aside0 (Kd.R Kd.bool 4 w' w.heap.size (fun k_ => some k_ ≠ (v220 : Value).ownBlock) u5 x5_1) ∧ Aside0 (Kd.R Kd.bool 4 w' w.heap.size (fun k_ => some k_ ≠ (u5 : Value).ownBlock) v220 x7_2) ∧ Aside0 (Below w.heap.size w w'))
                case atStart => exact ⟨(y219), ((a1.size : Int)), (by first | rfl | (simp; done) | (simp [*]; done)), H', ⟨Nat.le_refl _⟩, ⟨by (with_reducible repeat (first | apply Kd.R_alloc | apply Kd.R_drewN | apply Kd.R_drew)); exact Kd.R_mono HO_5.out (fun _ hk => hk.2)⟩, ⟨by (with_reducible repeat (first | apply Kd.R_alloc | apply Kd.R_drewN | apply Kd.R_drew)); exact Kd.R_mono HO221.out (fun _ hk => hk.2)⟩, ⟨by repeat (first | (with_reducible first | exact HB.out | apply below_alloc | apply pw_below_drewN | apply below_drew1) | exact HB.out)⟩⟩
                case round =>
                  clear H'
                  try clear c1
                  try clear c2
                  try clear p2
                  try clear c4
                  try clear c4b0
                  try clear c4b1
                  try clear c5
                  try clear c5b0
                  try clear c5b1
                  try clear p6
                  try clear c8
                  try clear c8b0
                  try clear c10
                  try clear c10b0
                  try clear c10b1
                  try clear c11
                  try clear c11b0
                  try clear c11b1
                  try clear p2
                  try clear p6
                  obtain ⟨x7_2, x8_2, rfl, HA, HK2, HO_5, HO_7, HB⟩ := hrel
                  cases gk with
                  | zero => exact absurd HA.out (by simp [secateurref21_Meets.l1])
                  | succ k2 =>
                    have H := HA.out
                    clear HA
                    simp only [secateurref21_Meets.l1] at H
                    by_cases c14 : x8_2 ≥ 0
                    · rw [if_pos c14] at H
                      have c14b0 : decide (0 ≤ x8_2) = true := decide_eq_true c14
                      clear c14
                      have HC15 := Aside0.mk H
                      clear H
                      go_upto_region 9 with (fail)
                      repeat (go_quiet (fail); go_upto_region 9 with (fail))
                      go_cut [29] (fun v29 wc => ∃ (kq : Nat) (x29_14 : Bool), v29 = .bool x29_14 ∧ Aside0 (secateurref21_Meets.j2 kq a0 a1 x5_1 x6_1 x7_2 x8_2 x29_14 = some r) ∧ Aside0 (kq ≤ k2) ∧ Aside0 (Kd.R Kd.bool 4 wc w.heap.size (fun k_ => some k_ ≠ (v220 : Value).ownBlock) u5 x5_1) ∧ Aside0 (Kd.R Kd.bool 4 wc w.heap.size (fun k_ => some k_ ≠ (u5 : Value).ownBlock) v220 x7_2) ∧ Aside0 (Below w.heap.size w wc))
                      case first =>
                        have H := HC15.out
                        clear HC15
                        by_cases c16 : x6_1 = (a0.size : Int)
                        · rw [if_pos c16] at H
                          have c16b0 : (x6_1 == (a0.size : Int)) = true := beq_iff_eq.mpr c16
                          have c16b1 : (x6_1 != (a0.size : Int)) = false := bne_eq_false_iff_eq.mpr c16
                          clear c16
                          (first | rw [c16b0] | (simp only [i64_w, i32_w]; rw [c16b0]) | skip)
                          have H' := Aside0.mk H
                          clear H
                          go_wp2
                          repeat (go_quiet (fail); try go_wp2)
                          go_meet
                          case rel => exact ⟨_, ((x8_2 == (a1.size : Int))), (by first | rfl | (simp; done) | (simp [*]; done)), H', ⟨by have := HK1.out; have := HK2.out; first | omega | exact Nat.le_refl _⟩, ⟨by (with_reducible repeat (first | apply Kd.R_alloc | apply Kd.R_drewN | apply Kd.R_drew)); exact HO_5.out⟩, ⟨by (with_reducible repeat (first | apply Kd.R_alloc | apply Kd.R_drewN | apply Kd.R_drew)); exact HO_7.out⟩, ⟨by repeat (first | (with_reducible first | exact HB.out | apply below_alloc | apply pw_below_drewN | apply below_drew1) | exact HB.out)⟩⟩
                        · rw [if_neg c16] at H
                          have c16b0 : (x6_1 == (a0.size : Int)) = false := beq_eq_false_iff_ne.mpr c16
                          have c16b1 : (x6_1 != (a0.size : Int)) = true := bne_iff_ne.mpr c16
                          (first | rw [c16b0] | (simp only [i64_w, i32_w]; rw [c16b0]) | skip)
                          have H' := Aside0.mk H
                          clear H
                          go_wp2
                          repeat (go_quiet (fail); try go_wp2)
                          go_meet
                          case rel => exact ⟨_, (false), (by first | rfl | (simp; done) | (simp [*]; done)), H', ⟨by have := HK1.out; have := HK2.out; first | omega | exact Nat.le_refl _⟩, ⟨by (with_reducible repeat (first | apply Kd.R_alloc | apply Kd.R_drewN | apply Kd.R_drew)); exact HO_5.out⟩, ⟨by (with_reducible repeat (first | apply Kd.R_alloc | apply Kd.R_drewN | apply Kd.R_drew)); exact HO_7.out⟩, ⟨by repeat (first | (with_reducible first | exact HB.out | apply below_alloc | apply pw_below_drewN | apply below_drew1) | exact HB.out)⟩⟩
                      case rest =>
                        clear HC15
                        try clear c1
                        try clear c2
                        try clear p2
                        try clear c4
                        try clear c4b0
                        try clear c4b1
                        try clear c5
                        try clear c5b0
                        try clear c5b1
                        try clear p6
                        try clear c8
                        try clear c8b0
                        try clear c10
                        try clear c10b0
                        try clear c10b1
                        try clear c11
                        try clear c11b0
                        try clear c11b1
                        try clear c14
                        try clear c14b0
                        try clear c16
                        try clear c16b0
                        try clear c16b1
                        try clear p2
                        try clear p6
                        obtain ⟨kq, x29_14, rfl, HA, HJ14, HO_5, HO_7, HB⟩ := hcut
                        cases kq with
                        | zero => exact absurd HA.out (by simp [secateurref21_Meets.j2])
                        | succ kj14 =>
                          have H := HA.out
                          clear HA
                          simp only [secateurref21_Meets.j2] at H
                          by_cases c17 : x29_14 = true
                          · subst c17
                            have H1 : (if 0 ≤ x8_2 then (if x8_2 < (x7_2.length : Int) then (secateurref21_Meets.l1 kj14 a0 a1 x5_1 x6_1 (x7_2.set (x8_2 : Int).toNat true) (wrap64 (x8_2 - 1))) else (none)) else (none)) = some r := by rw [if_pos rfl] at H; exact H
                            clear H
                            have H := H1
                            clear H1
                            by_cases c18 : 0 ≤ x8_2
                            · rw [if_pos c18] at H
                              have c18b0 : decide (0 ≤ x8_2) = true := decide_eq_true c18
                              clear c18
                              by_cases c19 : x8_2 < (x7_2.length : Int)
                              · rw [if_pos c19] at H
                                have c19b0 : decide (x8_2 < (x7_2.length : Int)) = true := decide_eq_true c19
                                clear c19
                                obtain ⟨y222, hy222⟩ : ∃ y_ : List Bool, y_ = (x7_2.set (x8_2 : Int).toNat true) := ⟨_, rfl⟩
                                replace H : (secateurref21_Meets.l1 kj14 a0 a1 x5_1 x6_1 y222 (wrap64 (x8_2 - 1))) = some r := by first | (rw [hy222]; with_reducible exact H) | (have H2_ := (Option.bind_some _ _).symm.trans H; rw [hy222]; with_reducible exact H2_) | (have H2_ := (Option.bind_some _ _).symm.trans H; with_reducible exact H2_) | with_reducible exact H | (rw [hy222]; exact H) | exact H
                                have Ny222 := Aside0.mk hy222
                                clear hy222
                                have H' := Aside0.mk H
                                clear H
                                have p20 : 0 ≤ (x8_2 : Int) := of_decide_eq_true (by first | (with_reducible assumption) | assumption)
                                have q20 : (x8_2 : Int) < ((x7_2.length : Int) : Int) := of_decide_eq_true (by first | (with_reducible assumption) | assumption)
                                obtain ⟨go20, co20, eo20, gb20, gl20, cl20, HG20⟩ := Kd.R_form HO_7.out (by omega)
                                (first | cases eo20 | (injection eo20 with ea_ en_ ec_; (first | subst ea_ | (injection ea_ with ea_; subst ea_)); subst ec_; clear en_))
                                have GB20 := Aside0.mk gb20
                                have GG20 := Aside0.mk HG20
                                clear gb20 gl20 HG20
                                obtain ⟨hx20_0, hf20_0⟩ := Kd.R_celln false HO_7.out (x8_2 : Int) p20 q20
                                replace p20 := eq_true p20
                                replace q20 := eq_true q20
                                have HP21 := Kd.R_putg HO_7.out (x8_2 : Int) true
                                go_wp2_with (first | ((with_reducible refine gate_store (t := 4) (p := 42) rfl ?_); (try (rw [drewN_self wc]; generalize hq_ : World.drewN wc _ = wc; have n0_ := Aside0.mk (Kd.R_at hq_ HO_5.out); have n1_ := Aside0.mk (Kd.R_at hq_ HO_7.out); have n2_ := Aside0.mk (below_at hq_ HB.out); clear hq_ HO_5 HO_7 HB; have HO_5 := n0_; have HO_7 := n1_; have HB := n2_; clear n0_ n1_ n2_; (try (have HP21 := Kd.R_putg HO_7.out (x8_2 : Int) true)))); refine store_event (t := 4) (p := 42) (v := ?vo_w22) (w1 := (wc.setCell ⟨go20, (x8_2 : Int).toNat, none⟩ (.bool true))) ?hg ?ho ?hn ?hr ?_; (case ho => rfl); (case hg => rfl); (case hn => rfl); (case hr => first | (go_simp; done) | (go_simp; rfl)); intro w22 hw; have hg : wc.grownBy w22 (some go20) := (by rw [hw]; exact HP21.2); have hp_ : Kd.R Kd.bool 4 w22 w.heap.size (fun k_ => some k_ ≠ (u5 : Value).ownBlock) (.slice (some ⟨go20, 0, none⟩) x7_2.length co20) y222 := (by rw [hw, Ny222.out]; exact HP21.1); clear HP21; have n0_ := Aside0.mk (Kd.R_after (v := (.slice (some ⟨go20, 0, none⟩) x7_2.length co20)) (v1 := (.slice (some ⟨go20, 0, none⟩) x7_2.length co20)) (ok := (fun _ => True)) (by (with_reducible repeat (first | apply Kd.R_alloc | apply Kd.R_drewN | apply Kd.R_drew)); exact Kd.R_mono HO_5.out (fun _ hk => ⟨trivial, hk⟩)) hg (.inl rfl)); have n1_ := Aside0.mk (hp_); have n2_ := Aside0.mk ((by rw [hw]; exact below_set (HB.out) GB20.out : Below w.heap.size w w22)); clear HO_5; clear HO_7; clear HB; have HO_5 := n0_; have HO_7 := n1_; have HB := n2_; clear n0_ n1_ n2_; clear hg hw hp_))
                                repeat (go_quiet (first | ((with_reducible refine gate_store (t := 4) (p := 42) rfl ?_); (try (rw [drewN_self wc]; generalize hq_ : World.drewN wc _ = wc; have n0_ := Aside0.mk (Kd.R_at hq_ HO_5.out); have n1_ := Aside0.mk (Kd.R_at hq_ HO_7.out); have n2_ := Aside0.mk (below_at hq_ HB.out); clear hq_ HO_5 HO_7 HB; have HO_5 := n0_; have HO_7 := n1_; have HB := n2_; clear n0_ n1_ n2_; (try (have HP21 := Kd.R_putg HO_7.out (x8_2 : Int) true)))); refine store_event (t := 4) (p := 42) (v := ?vo_w22) (w1 := (wc.setCell ⟨go20, (x8_2 : Int).toNat, none⟩ (.bool true))) ?hg ?ho ?hn ?hr ?_; (case ho => rfl); (case hg => rfl); (case hn => rfl); (case hr => first | (go_simp; done) | (go_simp; rfl)); intro w22 hw; have hg : wc.grownBy w22 (some go20) := (by rw [hw]; exact HP21.2); have hp_ : Kd.R Kd.bool 4 w22 w.heap.size (fun k_ => some k_ ≠ (u5 : Value).ownBlock) (.slice (some ⟨go20, 0, none⟩) x7_2.length co20) y222 := (by rw [hw, Ny222.out]; exact HP21.1); clear HP21; have n0_ := Aside0.mk (Kd.R_after (v := (.slice (some ⟨go20, 0, none⟩) x7_2.length co20)) (v1 := (.slice (some ⟨go20, 0, none⟩) x7_2.length co20)) (ok := (fun _ => True)) (by (with_reducible repeat (first | apply Kd.R_alloc | apply Kd.R_drewN | apply Kd.R_drew)); exact Kd.R_mono HO_5.out (fun _ hk => ⟨trivial, hk⟩)) hg (.inl rfl)); have n1_ := Aside0.mk (hp_); have n2_ := Aside0.mk ((by rw [hw]; exact below_set (HB.out) GB20.out : Below w.heap.size w w22)); clear HO_5; clear HO_7; clear HB; have HO_5 := n0_; have HO_7 := n1_; have HB := n2_; clear n0_ n1_ n2_; clear hg hw hp_)); try go_wp2_with (first | ((with_reducible refine gate_store (t := 4) (p := 42) rfl ?_); (try (rw [drewN_self wc]; generalize hq_ : World.drewN wc _ = wc; have n0_ := Aside0.mk (Kd.R_at hq_ HO_5.out); have n1_ := Aside0.mk (Kd.R_at hq_ HO_7.out); have n2_ := Aside0.mk (below_at hq_ HB.out); clear hq_ HO_5 HO_7 HB; have HO_5 := n0_; have HO_7 := n1_; have HB := n2_; clear n0_ n1_ n2_; (try (have HP21 := Kd.R_putg HO_7.out (x8_2 : Int) true)))); refine store_event (t := 4) (p := 42) (v := ?vo_w22) (w1 := (wc.setCell ⟨go20, (x8_2 : Int).toNat, none⟩ (.bool true))) ?hg ?ho ?hn ?hr ?_; (case ho => rfl); (case hg => rfl); (case hn => rfl); (case hr => first | (go_simp; done) | (go_simp; rfl)); intro w22 hw; have hg : wc.grownBy w22 (some go20) := (by rw [hw]; exact HP21.2); have hp_ : Kd.R Kd.bool 4 w22 w.heap.size (fun k_ => some k_ ≠ (u5 : Value).ownBlock) (.slice (some ⟨go20, 0, none⟩) x7_2.length co20) y222 := (by rw [hw, Ny222.out]; exact HP21.1); clear HP21; have n0_ := Aside0.mk (Kd.R_after (v := (.slice (some ⟨go20, 0, none⟩) x7_2.length co20)) (v1 := (.slice (some ⟨go20, 0, none⟩) x7_2.length co20)) (ok := (fun _ => True)) (by (with_reducible repeat (first | apply Kd.R_alloc | apply Kd.R_drewN | apply Kd.R_drew)); exact Kd.R_mono HO_5.out (fun _ hk => ⟨trivial, hk⟩)) hg (.inl rfl)); have n1_ := Aside0.mk (hp_); have n2_ := Aside0.mk ((by rw [hw]; exact below_set (HB.out) GB20.out : Below w.heap.size w w22)); clear HO_5; clear HO_7; clear HB; have HO_5 := n0_; have HO_7 := n1_; have HB := n2_; clear n0_ n1_ n2_; clear hg hw hp_)))
                                try (generalize hq_ : World.drewN wc nq = wc; have n0_ := Aside0.mk (Kd.R_at hq_ HO_5.out); have n1_ := Aside0.mk (Kd.R_at hq_ HO_7.out); have n2_ := Aside0.mk (below_at hq_ HB.out); clear hq_ HO_5 HO_7 HB; have HO_5 := n0_; have HO_7 := n1_; have HB := n2_; clear n0_ n1_ n2_; (try (have HP21 := Kd.R_putg HO_7.out (x8_2 : Int) true)); generalize hw0_ : (wc.setCell ⟨go20, (x8_2 : Int).toNat, none⟩ (.bool true)) = w22; have hw := hw0_.symm; clear hw0_; have hg : wc.grownBy w22 (some go20) := (by rw [hw]; exact HP21.2); have hp_ : Kd.R Kd.bool 4 w22 w.heap.size (fun k_ => some k_ ≠ (u5 : Value).ownBlock) (.slice (some ⟨go20, 0, none⟩) x7_2.length co20) y222 := (by rw [hw, Ny222.out]; exact HP21.1); clear HP21; have n0_ := Aside0.mk (Kd.R_after (v := (.slice (some ⟨go20, 0, none⟩) x7_2.length co20)) (v1 := (.slice (some ⟨go20, 0, none⟩) x7_2.length co20)) (ok := (fun _ => True)) (by (with_reducible repeat (first | apply Kd.R_alloc | apply Kd.R_drewN | apply Kd.R_drew)); exact Kd.R_mono HO_5.out (fun _ hk => ⟨trivial, hk⟩)) hg (.inl rfl)); have n1_ := Aside0.mk (hp_); have n2_ := Aside0.mk ((by rw [hw]; exact below_set (HB.out) GB20.out : Below w.heap.size w w22)); clear HO_5; clear HO_7; clear HB; have HO_5 := n0_; have HO_7 := n1_; have HB := n2_; clear n0_ n1_ n2_; clear hg hw hp_)
                                go_roundg kj14
                                case measure => have := HK1.out; have := HK2.out; have := HJ14.out; omega
                                case rel => exact ⟨(y222), (wrap64 (x8_2 - 1)), (by first | rfl | (simp; done) | (simp [*]; done)), H', ⟨by have := HK1.out; have := HK2.out; have := HJ14.out; omega⟩, ⟨by (with_reducible repeat (first | apply Kd.R_alloc | apply Kd.R_drewN | apply Kd.R_drew)); exact Kd.R_mono HO_5.out (fun _ hk => hk.2)⟩, ⟨by (with_reducible repeat (first | apply Kd.R_alloc | apply Kd.R_drewN | apply Kd.R_drew)); exact HO_7.out⟩, ⟨by repeat (first | (with_reducible first | exact HB.out | apply below_alloc | apply pw_below_drewN | apply below_drew1) | exact HB.out)⟩⟩
                              · rw [if_neg c19] at H
                                exact absurd H (by simp)
                            · rw [if_neg c18] at H
                              exact absurd H (by simp)
                          · replace c17 := Bool.eq_false_iff.mpr c17
                            subst c17
                            have H1 : (if x6_1 < (a0.size : Int) then (if 0 ≤ x6_1 then (secateurref21_Meets.j3 kj14 a0 a1 x5_1 x6_1 x7_2 x8_2 ((bt a0 x6_1) == 42)) else (none)) else (secateurref21_Meets.j3 kj14 a0 a1 x5_1 x6_1 x7_2 x8_2 false)) = some r := by rw [if_neg (show ¬ (false = true) by decide)] at H; exact H
                            clear H
                            have H := H1
                            clear H1
                            have HC23 := Aside0.mk H
                            clear H
                            go_upto_region 11 with (fail)
                            repeat (go_quiet (fail); go_upto_region 11 with (fail))
                            go_cut [43] (fun v43 wc => ∃ (kq : Nat) (x43_22 : Bool), v43 = .bool x43_22 ∧ Aside0 (secateurref21_Meets.j3 kq a0 a1 x5_1 x6_1 x7_2 x8_2 x43_22 = some r) ∧ Aside0 (kq ≤ kj14) ∧ Aside0 (Kd.R Kd.bool 4 wc w.heap.size (fun k_ => some k_ ≠ (v220 : Value).ownBlock) u5 x5_1) ∧ Aside0 (Kd.R Kd.bool 4 wc w.heap.size (fun k_ => some k_ ≠ (u5 : Value).ownBlock) v220 x7_2) ∧ Aside0 (Below w.heap.size w wc))
                            case first =>
                              have H := HC23.out
                              clear HC23
                              by_cases c24 : x6_1 < (a0.size : Int)
                              · rw [if_pos c24] at H
                                have c24b0 : decide (x6_1 < (a0.size : Int)) = true := decide_eq_true c24
                                clear c24
                                (first | rw [c24b0] | (simp only [i64_w, i32_w]; rw [c24b0]) | skip)
                                by_cases c25 : 0 ≤ x6_1
                                · rw [if_pos c25] at H
                                  have c25b0 : decide (0 ≤ x6_1) = true := decide_eq_true c25
                                  clear c25
                                  have H' := Aside0.mk H
                                  clear H
                                  have p26 : 0 ≤ (x6_1 : Int) := of_decide_eq_true (by first | (with_reducible assumption) | assumption)
                                  have q26 : x6_1 < (a0.size : Int) := of_decide_eq_true (by first | (with_reducible assumption) | assumption)
                                  have hx26 := bt_at a0 x6_1
                                  replace p26 := eq_true p26
                                  replace q26 := eq_true q26
                                  go_wp2
                                  repeat (go_quiet (fail); try go_wp2)
                                  go_meet
                                  case rel => exact ⟨_, (((bt a0 x6_1) == 42)), (by first | rfl | (simp; done) | (simp [*]; done)), H', ⟨by have := HK1.out; have := HK2.out; have := HJ14.out; first | omega | exact Nat.le_refl _⟩, ⟨by (with_reducible repeat (first | apply Kd.R_alloc | apply Kd.R_drewN | apply Kd.R_drew)); exact HO_5.out⟩, ⟨by (with_reducible repeat (first | apply Kd.R_alloc | apply Kd.R_drewN | apply Kd.R_drew)); exact HO_7.out⟩, ⟨by repeat (first | (with_reducible first | exact HB.out | apply below_alloc | apply pw_below_drewN | apply below_drew1) | exact HB.out)⟩⟩
                                · rw [if_neg c25] at H
                                  exact absurd H (by simp)
                              · rw [if_neg c24] at H
                                have c24b0 : decide (x6_1 < (a0.size : Int)) = false := decide_eq_false c24
                                clear c24
                                (first | rw [c24b0] | (simp only [i64_w, i32_w]; rw [c24b0]) | skip)
                                have H' := Aside0.mk H
                                clear H
                                go_wp2
                                repeat (go_quiet (fail); try go_wp2)
                                go_meet
                                case rel => exact ⟨_, (false), (by first | rfl | (simp; done) | (simp [*]; done)), H', ⟨by have := HK1.out; have := HK2.out; have := HJ14.out; first | omega | exact Nat.le_refl _⟩, ⟨by (with_reducible repeat (first | apply Kd.R_alloc | apply Kd.R_drewN | apply Kd.R_drew)); exact HO_5.out⟩, ⟨by (with_reducible repeat (first | apply Kd.R_alloc | apply Kd.R_drewN | apply Kd.R_drew)); exact HO_7.out⟩, ⟨by repeat (first | (with_reducible first | exact HB.out | apply below_alloc | apply pw_below_drewN | apply below_drew1) | exact HB.out)⟩⟩
                            case rest =>
                              clear HC23
                              try clear c1
                              try clear c2
                              try clear p2
                              try clear q2
                              try clear hx2
                              try clear hf2
                              try clear c4
                              try clear c4b0
                              try clear c4b1
                              try clear c5
                              try clear c5b0
                              try clear c5b1
                              try clear p6
                              try clear c8
                              try clear c8b0
                              try clear c10
                              try clear c10b0
                              try clear c10b1
                              try clear c11
                              try clear c11b0
                              try clear c11b1
                              try clear c14
                              try clear c14b0
                              try clear c16
                              try clear c16b0
                              try clear c16b1
                              try clear c17
                              try clear c18
                              try clear c18b0
                              try clear c19
                              try clear c19b0
                              try clear p20
                              try clear q20
                              try clear hx20
                              try clear hf20
                              try clear c22
                              try clear c24
                              try clear c24b0
                              try clear c25
                              try clear c25b0
                              try clear p26
                              try clear q26
                              try clear hx26
                              try clear hx20_0
                              try clear p2
                              try clear p20
                              try clear p26
                              try clear p6
                              try clear q20
                              try clear q26
                              obtain ⟨kq, x43_22, rfl, HA, HJ22, HO_5, HO_7, HB⟩ := hcut
                              cases kq with
                              | zero => exact absurd HA.out (by simp [secateurref21_Meets.j3])
                              | succ kj22 =>
                                have H := HA.out
                                clear HA
                                simp only [secateurref21_Meets.j3] at H
                                by_cases c27 : x43_22 = true
                                · subst c27
                                  have H1 : (if 0 ≤ x8_2 then (if x8_2 < (x5_1.length : Int) then (if rdOf false x5_1 x8_2 = true then (if x8_2 < (x7_2.length : Int) then (secateurref21_Meets.l1 kj22 a0 a1 x5_1 x6_1 (x7_2.set (x8_2 : Int).toNat true) (wrap64 (x8_2 - 1))) else (none)) else (if x8_2 < (a1.size : Int) then (if 0 ≤ (wrap64 (x8_2 + 1)) then (if (wrap64 (x8_2 + 1)) < (x7_2.length : Int) then (if x8_2 < (x7_2.length : Int) then (secateurref21_Meets.l1 kj22 a0 a1 x5_1 x6_1 (x7_2.set (x8_2 : Int).toNat (rdOf false x7_2 (wrap64 (x8_2 + 1)))) (wrap64 (x8_2 - 1))) else (none)) else (none)) else (none)) else (if x8_2 < (x7_2.length : Int) then (secateurref21_Meets.l1 kj22 a0 a1 x5_1 x6_1 (x7_2.set (x8_2 : Int).toNat false) (wrap64 (x8_2 - 1))) else (none)))) else (none)) else (none)) = some r := by rw [if_pos rfl] at H; exact H
                                  clear H
                                  have H := H1
                                  clear H1
                                  by_cases c28 : 0 ≤ x8_2
                                  · rw [if_pos c28] at H
                                    have c28b0 : decide (0 ≤ x8_2) = true := decide_eq_true c28
                                    clear c28
                                    by_cases c29 : x8_2 < (x5_1.length : Int)
                                    · rw [if_pos c29] at H
                                      have c29b0 : decide (x8_2 < (x5_1.length : Int)) = true := decide_eq_true c29
                                      clear c29
                                      obtain ⟨bq30, hbq30⟩ : ∃ b_ : Bool, b_ = (rdOf false x5_1 x8_2) := ⟨_, rfl⟩
                                      replace H : (if bq30 = true then (if x8_2 < (x7_2.length : Int) then (secateurref21_Meets.l1 kj22 a0 a1 x5_1 x6_1 (x7_2.set (x8_2 : Int).toNat true) (wrap64 (x8_2 - 1))) else (none)) else (if x8_2 < (a1.size : Int) then (if 0 ≤ (wrap64 (x8_2 + 1)) then (if (wrap64 (x8_2 + 1)) < (x7_2.length : Int) then (if x8_2 < (x7_2.length : Int) then (secateurref21_Meets.l1 kj22 a0 a1 x5_1 x6_1 (x7_2.set (x8_2 : Int).toNat (rdOf false x7_2 (wrap64 (x8_2 + 1)))) (wrap64 (x8_2 - 1))) else (none)) else (none)) else (none)) else (if x8_2 < (x7_2.length : Int) then (secateurref21_Meets.l1 kj22 a0 a1 x5_1 x6_1 (x7_2.set (x8_2 : Int).toNat false) (wrap64 (x8_2 - 1))) else (none)))) = some r := by rw [← hbq30] at H; exact H
                                      have Nbq30 := Aside0.mk hbq30
                                      clear hbq30
                                      by_cases c31 : bq30 = true
                                      · subst c31
                                        have H1 : (if x8_2 < (x7_2.length : Int) then (secateurref21_Meets.l1 kj22 a0 a1 x5_1 x6_1 (x7_2.set (x8_2 : Int).toNat true) (wrap64 (x8_2 - 1))) else (none)) = some r := by rw [if_pos rfl] at H; exact H
                                        clear H
                                        have H := H1
                                        clear H1
                                        by_cases c32 : x8_2 < (x7_2.length : Int)
                                        · rw [if_pos c32] at H
                                          have c32b0 : decide (x8_2 < (x7_2.length : Int)) = true := decide_eq_true c32
                                          clear c32
                                          obtain ⟨y224, hy224⟩ : ∃ y_ : List Bool, y_ = (x7_2.set (x8_2 : Int).toNat true) := ⟨_, rfl⟩
                                          replace H : (secateurref21_Meets.l1 kj22 a0 a1 x5_1 x6_1 y224 (wrap64 (x8_2 - 1))) = some r := by first | (rw [hy224]; with_reducible exact H) | (have H2_ := (Option.bind_some _ _).symm.trans H; rw [hy224]; with_reducible exact H2_) | (have H2_ := (Option.bind_some _ _).symm.trans H; with_reducible exact H2_) | with_reducible exact H | (rw [hy224]; exact H) | exact H
                                          have Ny224 := Aside0.mk hy224
                                          clear hy224
                                          have H' := Aside0.mk H
                                          clear H
                                          obtain ⟨Ao34, co34, eo34⟩ := Kd.R_slice HO_5.out
                                          subst eo34
                                          have p223 : 0 ≤ (x8_2 : Int) := of_decide_eq_true (by first | (with_reducible assumption) | assumption)
                                          have q223 : x8_2 < (x5_1.length : Int) := of_decide_eq_true (by first | (with_reducible assumption) | assumption)
                                          obtain ⟨ad223, e223, hx223_0⟩ := Kd.at_bool (Kd.R_reads' HO_5.out).2.2 x8_2 p223 q223
                                          (try rw [← Nbq30.out] at hx223_0)
                                          cases e223
                                          replace p223 := eq_true p223
                                          replace q223 := eq_true q223
                                          have p33 : 0 ≤ (x8_2 : Int) := of_decide_eq_true (by first | (with_reducible assumption) | assumption)
                                          have q33 : (x8_2 : Int) < ((x7_2.length : Int) : Int) := of_decide_eq_true (by first | (with_reducible assumption) | assumption)
                                          obtain ⟨go33, co33, eo33, gb33, gl33, cl33, HG33⟩ := Kd.R_form HO_7.out (by omega)
                                          (first | cases eo33 | (injection eo33 with ea_ en_ ec_; (first | subst ea_ | (injection ea_ with ea_; subst ea_)); subst ec_; clear en_))
                                          have GB33 := Aside0.mk gb33
                                          have GG33 := Aside0.mk HG33
                                          clear gb33 gl33 HG33
                                          obtain ⟨hx33_0, hf33_0⟩ := Kd.R_celln false HO_7.out (x8_2 : Int) p33 q33
                                          replace p33 := eq_true p33
                                          replace q33 := eq_true q33
                                          have HP35 := Kd.R_putg HO_7.out (x8_2 : Int) true
                                          go_wp2_with (first | ((with_reducible refine gate_store (t := 4) (p := 73) rfl ?_); (try (rw [drewN_self wc]; generalize hq_ : World.drewN wc _ = wc; have n0_ := Aside0.mk (Kd.R_at hq_ HO_5.out); have n1_ := Aside0.mk (Kd.R_at hq_ HO_7.out); have n2_ := Aside0.mk (below_at hq_ HB.out); clear hq_ HO_5 HO_7 HB; have HO_5 := n0_; have HO_7 := n1_; have HB := n2_; clear n0_ n1_ n2_; (try (have HP35 := Kd.R_putg HO_7.out (x8_2 : Int) true)))); refine store_event (t := 4) (p := 73) (v := ?vo_w36) (w1 := (wc.setCell ⟨go33, (x8_2 : Int).toNat, none⟩ (.bool true))) ?hg ?ho ?hn ?hr ?_; (case ho => rfl); (case hg => rfl); (case hn => rfl); (case hr => first | (go_simp; done) | (go_simp; rfl)); intro w36 hw; have hg : wc.grownBy w36 (some go33) := (by rw [hw]; exact HP35.2); have hp_ : Kd.R Kd.bool 4 w36 w.heap.size (fun k_ => some k_ ≠ (.slice (some ad223) x5_1.length co34 : Value).ownBlock) (.slice (some ⟨go33, 0, none⟩) x7_2.length co33) y224 := (by rw [hw, Ny224.out]; exact HP35.1); clear HP35; have n0_ := Aside0.mk (Kd.R_after (v := (.slice (some ⟨go33, 0, none⟩) x7_2.length co33)) (v1 := (.slice (some ⟨go33, 0, none⟩) x7_2.length co33)) (ok := (fun _ => True)) (by (with_reducible repeat (first | apply Kd.R_alloc | apply Kd.R_drewN | apply Kd.R_drew)); exact Kd.R_mono HO_5.out (fun _ hk => ⟨trivial, hk⟩)) hg (.inl rfl)); have n1_ := Aside0.mk (hp_); have n2_ := Aside0.mk ((by rw [hw]; exact below_set (HB.out) GB33.out : Below w.heap.size w w36)); clear HO_5; clear HO_7; clear HB; have HO_5 := n0_; have HO_7 := n1_; have HB := n2_; clear n0_ n1_ n2_; clear hg hw hp_))
                                          repeat (go_quiet (first | ((with_reducible refine gate_store (t := 4) (p := 73) rfl ?_); (try (rw [drewN_self wc]; generalize hq_ : World.drewN wc _ = wc; have n0_ := Aside0.mk (Kd.R_at hq_ HO_5.out); have n1_ := Aside0.mk (Kd.R_at hq_ HO_7.out); have n2_ := Aside0.mk (below_at hq_ HB.out); clear hq_ HO_5 HO_7 HB; have HO_5 := n0_; have HO_7 := n1_; have HB := n2_; clear n0_ n1_ n2_; (try (have HP35 := Kd.R_putg HO_7.out (x8_2 : Int) true)))); refine store_event (t := 4) (p := 73) (v := ?vo_w36) (w1 := (wc.setCell ⟨go33, (x8_2 : Int).toNat, none⟩ (.bool true))) ?hg ?ho ?hn ?hr ?_; (case ho => rfl); (case hg => rfl); (case hn => rfl); (case hr => first | (go_simp; done) | (go_simp; rfl)); intro w36 hw; have hg : wc.grownBy w36 (some go33) := (by rw [hw]; exact HP35.2); have hp_ : Kd.R Kd.bool 4 w36 w.heap.size (fun k_ => some k_ ≠ (.slice (some ad223) x5_1.length co34 : Value).ownBlock) (.slice (some ⟨go33, 0, none⟩) x7_2.length co33) y224 := (by rw [hw, Ny224.out]; exact HP35.1); clear HP35; have n0_ := Aside0.mk (Kd.R_after (v := (.slice (some ⟨go33, 0, none⟩) x7_2.length co33)) (v1 := (.slice (some ⟨go33, 0, none⟩) x7_2.length co33)) (ok := (fun _ => True)) (by (with_reducible repeat (first | apply Kd.R_alloc | apply Kd.R_drewN | apply Kd.R_drew)); exact Kd.R_mono HO_5.out (fun _ hk => ⟨trivial, hk⟩)) hg (.inl rfl)); have n1_ := Aside0.mk (hp_); have n2_ := Aside0.mk ((by rw [hw]; exact below_set (HB.out) GB33.out : Below w.heap.size w w36)); clear HO_5; clear HO_7; clear HB; have HO_5 := n0_; have HO_7 := n1_; have HB := n2_; clear n0_ n1_ n2_; clear hg hw hp_)); try go_wp2_with (first | ((with_reducible refine gate_store (t := 4) (p := 73) rfl ?_); (try (rw [drewN_self wc]; generalize hq_ : World.drewN wc _ = wc; have n0_ := Aside0.mk (Kd.R_at hq_ HO_5.out); have n1_ := Aside0.mk (Kd.R_at hq_ HO_7.out); have n2_ := Aside0.mk (below_at hq_ HB.out); clear hq_ HO_5 HO_7 HB; have HO_5 := n0_; have HO_7 := n1_; have HB := n2_; clear n0_ n1_ n2_; (try (have HP35 := Kd.R_putg HO_7.out (x8_2 : Int) true)))); refine store_event (t := 4) (p := 73) (v := ?vo_w36) (w1 := (wc.setCell ⟨go33, (x8_2 : Int).toNat, none⟩ (.bool true))) ?hg ?ho ?hn ?hr ?_; (case ho => rfl); (case hg => rfl); (case hn => rfl); (case hr => first | (go_simp; done) | (go_simp; rfl)); intro w36 hw; have hg : wc.grownBy w36 (some go33) := (by rw [hw]; exact HP35.2); have hp_ : Kd.R Kd.bool 4 w36 w.heap.size (fun k_ => some k_ ≠ (.slice (some ad223) x5_1.length co34 : Value).ownBlock) (.slice (some ⟨go33, 0, none⟩) x7_2.length co33) y224 := (by rw [hw, Ny224.out]; exact HP35.1); clear HP35; have n0_ := Aside0.mk (Kd.R_after (v := (.slice (some ⟨go33, 0, none⟩) x7_2.length co33)) (v1 := (.slice (some ⟨go33, 0, none⟩) x7_2.length co33)) (ok := (fun _ => True)) (by (with_reducible repeat (first | apply Kd.R_alloc | apply Kd.R_drewN | apply Kd.R_drew)); exact Kd.R_mono HO_5.out (fun _ hk => ⟨trivial, hk⟩)) hg (.inl rfl)); have n1_ := Aside0.mk (hp_); have n2_ := Aside0.mk ((by rw [hw]; exact below_set (HB.out) GB33.out : Below w.heap.size w w36)); clear HO_5; clear HO_7; clear HB; have HO_5 := n0_; have HO_7 := n1_; have HB := n2_; clear n0_ n1_ n2_; clear hg hw hp_)))
                                          try (generalize hq_ : World.drewN wc nq = wc; have n0_ := Aside0.mk (Kd.R_at hq_ HO_5.out); have n1_ := Aside0.mk (Kd.R_at hq_ HO_7.out); have n2_ := Aside0.mk (below_at hq_ HB.out); clear hq_ HO_5 HO_7 HB; have HO_5 := n0_; have HO_7 := n1_; have HB := n2_; clear n0_ n1_ n2_; (try (have HP35 := Kd.R_putg HO_7.out (x8_2 : Int) true)); generalize hw0_ : (wc.setCell ⟨go33, (x8_2 : Int).toNat, none⟩ (.bool true)) = w36; have hw := hw0_.symm; clear hw0_; have hg : wc.grownBy w36 (some go33) := (by rw [hw]; exact HP35.2); have hp_ : Kd.R Kd.bool 4 w36 w.heap.size (fun k_ => some k_ ≠ (.slice (some ad223) x5_1.length co34 : Value).ownBlock) (.slice (some ⟨go33, 0, none⟩) x7_2.length co33) y224 := (by rw [hw, Ny224.out]; exact HP35.1); clear HP35; have n0_ := Aside0.mk (Kd.R_after (v := (.slice (some ⟨go33, 0, none⟩) x7_2.length co33)) (v1 := (.slice (some ⟨go33, 0, none⟩) x7_2.length co33)) (ok := (fun _ => True)) (by (with_reducible repeat (first | apply Kd.R_alloc | apply Kd.R_drewN | apply Kd.R_drew)); exact Kd.R_mono HO_5.out (fun _ hk => ⟨trivial, hk⟩)) hg (.inl rfl)); have n1_ := Aside0.mk (hp_); have n2_ := Aside0.mk ((by rw [hw]; exact below_set (HB.out) GB33.out : Below w.heap.size w w36)); clear HO_5; clear HO_7; clear HB; have HO_5 := n0_; have HO_7 := n1_; have HB := n2_; clear n0_ n1_ n2_; clear hg hw hp_)
                                          go_roundg kj22
                                          case measure => have := HK1.out; have := HK2.out; have := HJ14.out; have := HJ22.out; omega
                                          case rel => exact ⟨(y224), (wrap64 (x8_2 - 1)), (by first | rfl | (simp; done) | (simp [*]; done)), H', ⟨by have := HK1.out; have := HK2.out; have := HJ14.out; have := HJ22.out; omega⟩, ⟨by (with_reducible repeat (first | apply Kd.R_alloc | apply Kd.R_drewN | apply Kd.R_drew)); exact Kd.R_mono HO_5.out (fun _ hk => hk.2)⟩, ⟨by (with_reducible repeat (first | apply Kd.R_alloc | apply Kd.R_drewN | apply Kd.R_drew)); exact HO_7.out⟩, ⟨by repeat (first | (with_reducible first | exact HB.out | apply below_alloc | apply pw_below_drewN | apply below_drew1) | exact HB.out)⟩⟩
                                        · rw [if_neg c32] at H
                                          exact absurd H (by simp)
                                      · replace c31 := Bool.eq_false_iff.mpr c31
                                        subst c31
                                        have H1 : (if x8_2 < (a1.size : Int) then (if 0 ≤ (wrap64 (x8_2 + 1)) then (if (wrap64 (x8_2 + 1)) < (x7_2.length : Int) then (if x8_2 < (x7_2.length : Int) then (secateurref21_Meets.l1 kj22 a0 a1 x5_1 x6_1 (x7_2.set (x8_2 : Int).toNat (rdOf false x7_2 (wrap64 (x8_2 + 1)))) (wrap64 (x8_2 - 1))) else (none)) else (none)) else (none)) else (if x8_2 < (x7_2.length : Int) then (secateurref21_Meets.l1 kj22 a0 a1 x5_1 x6_1 (x7_2.set (x8_2 : Int).toNat false) (wrap64 (x8_2 - 1))) else (none))) = some r := by rw [if_neg (show ¬ (false = true) by decide)] at H; exact H
                                        clear H
                                        have H := H1
                                        clear H1
                                        by_cases c37 : x8_2 < (a1.size : Int)
                                        · rw [if_pos c37] at H
                                          have c37b0 : decide (x8_2 < (a1.size : Int)) = true := decide_eq_true c37
                                          clear c37
                                          obtain ⟨ji38, hji38⟩ : ∃ j_ : Int, (wrap64 (x8_2 + 1)) = j_ := ⟨_, rfl⟩
                                          replace H : (if 0 ≤ (ji38) then (if (ji38) < (x7_2.length : Int) then (if x8_2 < (x7_2.length : Int) then (secateurref21_Meets.l1 kj22 a0 a1 x5_1 x6_1 (x7_2.set (x8_2 : Int).toNat (rdOf false x7_2 (ji38))) (wrap64 (x8_2 - 1))) else (none)) else (none)) else (none)) = some r := by first | (rw [hji38] at H; exact H) | (simp only [hji38] at H ⊢; exact H)
                                          have hji38w : (IntKind.i64.wrap (x8_2 + 1)) = ji38 := (i64_w _).trans hji38
                                          by_cases c39 : 0 ≤ (ji38)
                                          · rw [if_pos c39] at H
                                            have c39b0 : decide (0 ≤ (ji38)) = true := decide_eq_true c39
                                            clear c39
                                            by_cases c40 : (ji38) < (x7_2.length : Int)
                                            · rw [if_pos c40] at H
                                              have c40b0 : decide ((ji38) < (x7_2.length : Int)) = true := decide_eq_true c40
                                              clear c40
                                              by_cases c41 : x8_2 < (x7_2.length : Int)
                                              · rw [if_pos c41] at H
                                                have c41b0 : decide (x8_2 < (x7_2.length : Int)) = true := decide_eq_true c41
                                                clear c41
                                                obtain ⟨y226, hy226⟩ : ∃ y_ : List Bool, y_ = (x7_2.set (x8_2 : Int).toNat (rdOf false x7_2 (ji38))) := ⟨_, rfl⟩
                                                replace H : (secateurref21_Meets.l1 kj22 a0 a1 x5_1 x6_1 y226 (wrap64 (x8_2 - 1))) = some r := by first | (rw [hy226]; with_reducible exact H) | (have H2_ := (Option.bind_some _ _).symm.trans H; rw [hy226]; with_reducible exact H2_) | (have H2_ := (Option.bind_some _ _).symm.trans H; with_reducible exact H2_) | with_reducible exact H | (rw [hy226]; exact H) | exact H
                                                have Ny226 := Aside0.mk hy226
                                                clear hy226
                                                have H' := Aside0.mk H
                                                clear H
                                                obtain ⟨Ao43, co43, eo43⟩ := Kd.R_slice HO_5.out
                                                subst eo43
                                                have p223 : 0 ≤ (x8_2 : Int) := of_decide_eq_true (by first | (with_reducible assumption) | assumption)
                                                have q223 : x8_2 < (x5_1.length : Int) := of_decide_eq_true (by first | (with_reducible assumption) | assumption)
                                                obtain ⟨ad223, e223, hx223_0⟩ := Kd.at_bool (Kd.R_reads' HO_5.out).2.2 x8_2 p223 q223
                                                (try rw [← Nbq30.out] at hx223_0)
                                                cases e223
                                                replace p223 := eq_true p223
                                                replace q223 := eq_true q223
                                                obtain ⟨Ao44, co44, eo44⟩ := Kd.R_slice HO_7.out
                                                subst eo44
                                                have p225 : 0 ≤ ((ji38) : Int) := of_decide_eq_true (by first | (with_reducible assumption) | assumption)
                                                have q225 : (ji38) < (x7_2.length : Int) := of_decide_eq_true (by first | (with_reducible assumption) | assumption)
                                                obtain ⟨ad225, e225, hx225_0⟩ := Kd.at_bool (Kd.R_reads' HO_7.out).2.2 (ji38) p225 q225
                                                (try rw [← Nbq30.out] at hx225_0)
                                                cases e225
                                                replace p225 := eq_true p225
                                                replace q225 := eq_true q225
                                                have p42 : 0 ≤ (x8_2 : Int) := of_decide_eq_true (by first | (with_reducible assumption) | assumption)
                                                have q42 : (x8_2 : Int) < ((x7_2.length : Int) : Int) := of_decide_eq_true (by first | (with_reducible assumption) | assumption)
                                                obtain ⟨go42, co42, eo42, gb42, gl42, cl42, HG42⟩ := Kd.R_form HO_7.out (by omega)
                                                (first | cases eo42 | (injection eo42 with ea_ en_ ec_; (first | subst ea_ | (injection ea_ with ea_; subst ea_)); subst ec_; clear en_))
                                                have GB42 := Aside0.mk gb42
                                                have GG42 := Aside0.mk HG42
                                                clear gb42 gl42 HG42
                                                (first | simp only [add_plain] at hx225_0 | skip)
                                                obtain ⟨hx42_0, hf42_0⟩ := Kd.R_celln false HO_7.out (x8_2 : Int) p42 q42
                                                replace p42 := eq_true p42
                                                replace q42 := eq_true q42
                                                have HP45 := Kd.R_putg HO_7.out (x8_2 : Int) (rdOf false x7_2 (ji38))
                                                go_wp2_with (first | ((with_reducible refine gate_store (t := 4) (p := 73) rfl ?_); (try (rw [drewN_self wc]; generalize hq_ : World.drewN wc _ = wc; have n0_ := Aside0.mk (Kd.R_at hq_ HO_5.out); have n1_ := Aside0.mk (Kd.R_at hq_ HO_7.out); have n2_ := Aside0.mk (below_at hq_ HB.out); clear hq_ HO_5 HO_7 HB; have HO_5 := n0_; have HO_7 := n1_; have HB := n2_; clear n0_ n1_ n2_; (try (have HP45 := Kd.R_putg HO_7.out (x8_2 : Int) (rdOf false x7_2 (ji38)))))); refine store_event (t := 4) (p := 73) (v := ?vo_w46) (w1 := (wc.setCell ⟨go42, (x8_2 : Int).toNat, none⟩ (.bool (rdOf false x7_2 (ji38))))) ?hg ?ho ?hn ?hr ?_; (case ho => rfl); (case hg => rfl); (case hn => rfl); (case hr => first | (go_simp; done) | (go_simp; rfl)); intro w46 hw; have hg : wc.grownBy w46 (some go42) := (by rw [hw]; exact HP45.2); have hp_ : Kd.R Kd.bool 4 w46 w.heap.size (fun k_ => some k_ ≠ (.slice (some ad223) x5_1.length co43 : Value).ownBlock) (.slice (some ⟨go42, 0, none⟩) x7_2.length co44) y226 := (by rw [hw, Ny226.out]; exact HP45.1); clear HP45; have n0_ := Aside0.mk (Kd.R_after (v := (.slice (some ⟨go42, 0, none⟩) x7_2.length co44)) (v1 := (.slice (some ⟨go42, 0, none⟩) x7_2.length co44)) (ok := (fun _ => True)) (by (with_reducible repeat (first | apply Kd.R_alloc | apply Kd.R_drewN | apply Kd.R_drew)); exact Kd.R_mono HO_5.out (fun _ hk => ⟨trivial, hk⟩)) hg (.inl rfl)); have n1_ := Aside0.mk (hp_); have n2_ := Aside0.mk ((by rw [hw]; exact below_set (HB.out) GB42.out : Below w.heap.size w w46)); clear HO_5; clear HO_7; clear HB; have HO_5 := n0_; have HO_7 := n1_; have HB := n2_; clear n0_ n1_ n2_; clear hg hw hp_))
                                                repeat (go_quiet (first | ((with_reducible refine gate_store (t := 4) (p := 73) rfl ?_); (try (rw [drewN_self wc]; generalize hq_ : World.drewN wc _ = wc; have n0_ := Aside0.mk (Kd.R_at hq_ HO_5.out); have n1_ := Aside0.mk (Kd.R_at hq_ HO_7.out); have n2_ := Aside0.mk (below_at hq_ HB.out); clear hq_ HO_5 HO_7 HB; have HO_5 := n0_; have HO_7 := n1_; have HB := n2_; clear n0_ n1_ n2_; (try (have HP45 := Kd.R_putg HO_7.out (x8_2 : Int) (rdOf false x7_2 (ji38)))))); refine store_event (t := 4) (p := 73) (v := ?vo_w46) (w1 := (wc.setCell ⟨go42, (x8_2 : Int).toNat, none⟩ (.bool (rdOf false x7_2 (ji38))))) ?hg ?ho ?hn ?hr ?_; (case ho => rfl); (case hg => rfl); (case hn => rfl); (case hr => first | (go_simp; done) | (go_simp; rfl)); intro w46 hw; have hg : wc.grownBy w46 (some go42) := (by rw [hw]; exact HP45.2); have hp_ : Kd.R Kd.bool 4 w46 w.heap.size (fun k_ => some k_ ≠ (.slice (some ad223) x5_1.length co43 : Value).ownBlock) (.slice (some ⟨go42, 0, none⟩) x7_2.length co44) y226 := (by rw [hw, Ny226.out]; exact HP45.1); clear HP45; have n0_ := Aside0.mk (Kd.R_after (v := (.slice (some ⟨go42, 0, none⟩) x7_2.length co44)) (v1 := (.slice (some ⟨go42, 0, none⟩) x7_2.length co44)) (ok := (fun _ => True)) (by (with_reducible repeat (first | apply Kd.R_alloc | apply Kd.R_drewN | apply Kd.R_drew)); exact Kd.R_mono HO_5.out (fun _ hk => ⟨trivial, hk⟩)) hg (.inl rfl)); have n1_ := Aside0.mk (hp_); have n2_ := Aside0.mk ((by rw [hw]; exact below_set (HB.out) GB42.out : Below w.heap.size w w46)); clear HO_5; clear HO_7; clear HB; have HO_5 := n0_; have HO_7 := n1_; have HB := n2_; clear n0_ n1_ n2_; clear hg hw hp_)); try go_wp2_with (first | ((with_reducible refine gate_store (t := 4) (p := 73) rfl ?_); (try (rw [drewN_self wc]; generalize hq_ : World.drewN wc _ = wc; have n0_ := Aside0.mk (Kd.R_at hq_ HO_5.out); have n1_ := Aside0.mk (Kd.R_at hq_ HO_7.out); have n2_ := Aside0.mk (below_at hq_ HB.out); clear hq_ HO_5 HO_7 HB; have HO_5 := n0_; have HO_7 := n1_; have HB := n2_; clear n0_ n1_ n2_; (try (have HP45 := Kd.R_putg HO_7.out (x8_2 : Int) (rdOf false x7_2 (ji38)))))); refine store_event (t := 4) (p := 73) (v := ?vo_w46) (w1 := (wc.setCell ⟨go42, (x8_2 : Int).toNat, none⟩ (.bool (rdOf false x7_2 (ji38))))) ?hg ?ho ?hn ?hr ?_; (case ho => rfl); (case hg => rfl); (case hn => rfl); (case hr => first | (go_simp; done) | (go_simp; rfl)); intro w46 hw; have hg : wc.grownBy w46 (some go42) := (by rw [hw]; exact HP45.2); have hp_ : Kd.R Kd.bool 4 w46 w.heap.size (fun k_ => some k_ ≠ (.slice (some ad223) x5_1.length co43 : Value).ownBlock) (.slice (some ⟨go42, 0, none⟩) x7_2.length co44) y226 := (by rw [hw, Ny226.out]; exact HP45.1); clear HP45; have n0_ := Aside0.mk (Kd.R_after (v := (.slice (some ⟨go42, 0, none⟩) x7_2.length co44)) (v1 := (.slice (some ⟨go42, 0, none⟩) x7_2.length co44)) (ok := (fun _ => True)) (by (with_reducible repeat (first | apply Kd.R_alloc | apply Kd.R_drewN | apply Kd.R_drew)); exact Kd.R_mono HO_5.out (fun _ hk => ⟨trivial, hk⟩)) hg (.inl rfl)); have n1_ := Aside0.mk (hp_); have n2_ := Aside0.mk ((by rw [hw]; exact below_set (HB.out) GB42.out : Below w.heap.size w w46)); clear HO_5; clear HO_7; clear HB; have HO_5 := n0_; have HO_7 := n1_; have HB := n2_; clear n0_ n1_ n2_; clear hg hw hp_)))
                                                try (generalize hq_ : World.drewN wc nq = wc; have n0_ := Aside0.mk (Kd.R_at hq_ HO_5.out); have n1_ := Aside0.mk (Kd.R_at hq_ HO_7.out); have n2_ := Aside0.mk (below_at hq_ HB.out); clear hq_ HO_5 HO_7 HB; have HO_5 := n0_; have HO_7 := n1_; have HB := n2_; clear n0_ n1_ n2_; (try (have HP45 := Kd.R_putg HO_7.out (x8_2 : Int) (rdOf false x7_2 (ji38)))); generalize hw0_ : (wc.setCell ⟨go42, (x8_2 : Int).toNat, none⟩ (.bool (rdOf false x7_2 (ji38)))) = w46; have hw := hw0_.symm; clear hw0_; have hg : wc.grownBy w46 (some go42) := (by rw [hw]; exact HP45.2); have hp_ : Kd.R Kd.bool 4 w46 w.heap.size (fun k_ => some k_ ≠ (.slice (some ad223) x5_1.length co43 : Value).ownBlock) (.slice (some ⟨go42, 0, none⟩) x7_2.length co44) y226 := (by rw [hw, Ny226.out]; exact HP45.1); clear HP45; have n0_ := Aside0.mk (Kd.R_after (v := (.slice (some ⟨go42, 0, none⟩) x7_2.length co44)) (v1 := (.slice (some ⟨go42, 0, none⟩) x7_2.length co44)) (ok := (fun _ => True)) (by (with_reducible repeat (first | apply Kd.R_alloc | apply Kd.R_drewN | apply Kd.R_drew)); exact Kd.R_mono HO_5.out (fun _ hk => ⟨trivial, hk⟩)) hg (.inl rfl)); have n1_ := Aside0.mk (hp_); have n2_ := Aside0.mk ((by rw [hw]; exact below_set (HB.out) GB42.out : Below w.heap.size w w46)); clear HO_5; clear HO_7; clear HB; have HO_5 := n0_; have HO_7 := n1_; have HB := n2_; clear n0_ n1_ n2_; clear hg hw hp_)
                                                go_roundg kj22
                                                case measure => have := HK1.out; have := HK2.out; have := HJ14.out; have := HJ22.out; omega
                                                case rel => exact ⟨(y226), (wrap64 (x8_2 - 1)), (by first | rfl | (simp; done) | (simp [*]; done)), H', ⟨by have := HK1.out; have := HK2.out; have := HJ14.out; have := HJ22.out; omega⟩, ⟨by (with_reducible repeat (first | apply Kd.R_alloc | apply Kd.R_drewN | apply Kd.R_drew)); exact Kd.R_mono HO_5.out (fun _ hk => hk.2)⟩, ⟨by (with_reducible repeat (first | apply Kd.R_alloc | apply Kd.R_drewN | apply Kd.R_drew)); exact HO_7.out⟩, ⟨by repeat (first | (with_reducible first | exact HB.out | apply below_alloc | apply pw_below_drewN | apply below_drew1) | exact HB.out)⟩⟩
                                              · rw [if_neg c41] at H
                                                exact absurd H (by simp)
                                            · rw [if_neg c40] at H
                                              exact absurd H (by simp)
                                          · rw [if_neg c39] at H
                                            exact absurd H (by simp)
                                        · rw [if_neg c37] at H
                                          have c37b0 : decide (x8_2 < (a1.size : Int)) = false := decide_eq_false c37
                                          clear c37
                                          by_cases c47 : x8_2 < (x7_2.length : Int)
                                          · rw [if_pos c47] at H
                                            have c47b0 : decide (x8_2 < (x7_2.length : Int)) = true := decide_eq_true c47
                                            clear c47
                                            obtain ⟨y227, hy227⟩ : ∃ y_ : List Bool, y_ = (x7_2.set (x8_2 : Int).toNat false) := ⟨_, rfl⟩
                                            replace H : (secateurref21_Meets.l1 kj22 a0 a1 x5_1 x6_1 y227 (wrap64 (x8_2 - 1))) = some r := by first | (rw [hy227]; with_reducible exact H) | (have H2_ := (Option.bind_some _ _).symm.trans H; rw [hy227]; with_reducible exact H2_) | (have H2_ := (Option.bind_some _ _).symm.trans H; with_reducible exact H2_) | with_reducible exact H | (rw [hy227]; exact H) | exact H
                                            have Ny227 := Aside0.mk hy227
                                            clear hy227
                                            have H' := Aside0.mk H
                                            clear H
                                            obtain ⟨Ao49, co49, eo49⟩ := Kd.R_slice HO_5.out
                                            subst eo49
                                            have p223 : 0 ≤ (x8_2 : Int) := of_decide_eq_true (by first | (with_reducible assumption) | assumption)
                                            have q223 : x8_2 < (x5_1.length : Int) := of_decide_eq_true (by first | (with_reducible assumption) | assumption)
                                            obtain ⟨ad223, e223, hx223_0⟩ := Kd.at_bool (Kd.R_reads' HO_5.out).2.2 x8_2 p223 q223
                                            (try rw [← Nbq30.out] at hx223_0)
                                            cases e223
                                            replace p223 := eq_true p223
                                            replace q223 := eq_true q223
                                            have p48 : 0 ≤ (x8_2 : Int) := of_decide_eq_true (by first | (with_reducible assumption) | assumption)
                                            have q48 : (x8_2 : Int) < ((x7_2.length : Int) : Int) := of_decide_eq_true (by first | (with_reducible assumption) | assumption)
                                            obtain ⟨go48, co48, eo48, gb48, gl48, cl48, HG48⟩ := Kd.R_form HO_7.out (by omega)
                                            (first | cases eo48 | (injection eo48 with ea_ en_ ec_; (first | subst ea_ | (injection ea_ with ea_; subst ea_)); subst ec_; clear en_))
                                            have GB48 := Aside0.mk gb48
                                            have GG48 := Aside0.mk HG48
                                            clear gb48 gl48 HG48
                                            obtain ⟨hx48_0, hf48_0⟩ := Kd.R_celln false HO_7.out (x8_2 : Int) p48 q48
                                            replace p48 := eq_true p48
                                            replace q48 := eq_true q48
                                            have HP50 := Kd.R_putg HO_7.out (x8_2 : Int) false
                                            go_wp2_with (first | ((with_reducible refine gate_store (t := 4) (p := 73) rfl ?_); (try (rw [drewN_self wc]; generalize hq_ : World.drewN wc _ = wc; have n0_ := Aside0.mk (Kd.R_at hq_ HO_5.out); have n1_ := Aside0.mk (Kd.R_at hq_ HO_7.out); have n2_ := Aside0.mk (below_at hq_ HB.out); clear hq_ HO_5 HO_7 HB; have HO_5 := n0_; have HO_7 := n1_; have HB := n2_; clear n0_ n1_ n2_; (try (have HP50 := Kd.R_putg HO_7.out (x8_2 : Int) false)))); refine store_event (t := 4) (p := 73) (v := ?vo_w51) (w1 := (wc.setCell ⟨go48, (x8_2 : Int).toNat, none⟩ (.bool false))) ?hg ?ho ?hn ?hr ?_; (case ho => rfl); (case hg => rfl); (case hn => rfl); (case hr => first | (go_simp; done) | (go_simp; rfl)); intro w51 hw; have hg : wc.grownBy w51 (some go48) := (by rw [hw]; exact HP50.2); have hp_ : Kd.R Kd.bool 4 w51 w.heap.size (fun k_ => some k_ ≠ (.slice (some ad223) x5_1.length co49 : Value).ownBlock) (.slice (some ⟨go48, 0, none⟩) x7_2.length co48) y227 := (by rw [hw, Ny227.out]; exact HP50.1); clear HP50; have n0_ := Aside0.mk (Kd.R_after (v := (.slice (some ⟨go48, 0, none⟩) x7_2.length co48)) (v1 := (.slice (some ⟨go48, 0, none⟩) x7_2.length co48)) (ok := (fun _ => True)) (by (with_reducible repeat (first | apply Kd.R_alloc | apply Kd.R_drewN | apply Kd.R_drew)); exact Kd.R_mono HO_5.out (fun _ hk => ⟨trivial, hk⟩)) hg (.inl rfl)); have n1_ := Aside0.mk (hp_); have n2_ := Aside0.mk ((by rw [hw]; exact below_set (HB.out) GB48.out : Below w.heap.size w w51)); clear HO_5; clear HO_7; clear HB; have HO_5 := n0_; have HO_7 := n1_; have HB := n2_; clear n0_ n1_ n2_; clear hg hw hp_))
                                            repeat (go_quiet (first | ((with_reducible refine gate_store (t := 4) (p := 73) rfl ?_); (try (rw [drewN_self wc]; generalize hq_ : World.drewN wc _ = wc; have n0_ := Aside0.mk (Kd.R_at hq_ HO_5.out); have n1_ := Aside0.mk (Kd.R_at hq_ HO_7.out); have n2_ := Aside0.mk (below_at hq_ HB.out); clear hq_ HO_5 HO_7 HB; have HO_5 := n0_; have HO_7 := n1_; have HB := n2_; clear n0_ n1_ n2_; (try (have HP50 := Kd.R_putg HO_7.out (x8_2 : Int) false)))); refine store_event (t := 4) (p := 73) (v := ?vo_w51) (w1 := (wc.setCell ⟨go48, (x8_2 : Int).toNat, none⟩ (.bool false))) ?hg ?ho ?hn ?hr ?_; (case ho => rfl); (case hg => rfl); (case hn => rfl); (case hr => first | (go_simp; done) | (go_simp; rfl)); intro w51 hw; have hg : wc.grownBy w51 (some go48) := (by rw [hw]; exact HP50.2); have hp_ : Kd.R Kd.bool 4 w51 w.heap.size (fun k_ => some k_ ≠ (.slice (some ad223) x5_1.length co49 : Value).ownBlock) (.slice (some ⟨go48, 0, none⟩) x7_2.length co48) y227 := (by rw [hw, Ny227.out]; exact HP50.1); clear HP50; have n0_ := Aside0.mk (Kd.R_after (v := (.slice (some ⟨go48, 0, none⟩) x7_2.length co48)) (v1 := (.slice (some ⟨go48, 0, none⟩) x7_2.length co48)) (ok := (fun _ => True)) (by (with_reducible repeat (first | apply Kd.R_alloc | apply Kd.R_drewN | apply Kd.R_drew)); exact Kd.R_mono HO_5.out (fun _ hk => ⟨trivial, hk⟩)) hg (.inl rfl)); have n1_ := Aside0.mk (hp_); have n2_ := Aside0.mk ((by rw [hw]; exact below_set (HB.out) GB48.out : Below w.heap.size w w51)); clear HO_5; clear HO_7; clear HB; have HO_5 := n0_; have HO_7 := n1_; have HB := n2_; clear n0_ n1_ n2_; clear hg hw hp_)); try go_wp2_with (first | ((with_reducible refine gate_store (t := 4) (p := 73) rfl ?_); (try (rw [drewN_self wc]; generalize hq_ : World.drewN wc _ = wc; have n0_ := Aside0.mk (Kd.R_at hq_ HO_5.out); have n1_ := Aside0.mk (Kd.R_at hq_ HO_7.out); have n2_ := Aside0.mk (below_at hq_ HB.out); clear hq_ HO_5 HO_7 HB; have HO_5 := n0_; have HO_7 := n1_; have HB := n2_; clear n0_ n1_ n2_; (try (have HP50 := Kd.R_putg HO_7.out (x8_2 : Int) false)))); refine store_event (t := 4) (p := 73) (v := ?vo_w51) (w1 := (wc.setCell ⟨go48, (x8_2 : Int).toNat, none⟩ (.bool false))) ?hg ?ho ?hn ?hr ?_; (case ho => rfl); (case hg => rfl); (case hn => rfl); (case hr => first | (go_simp; done) | (go_simp; rfl)); intro w51 hw; have hg : wc.grownBy w51 (some go48) := (by rw [hw]; exact HP50.2); have hp_ : Kd.R Kd.bool 4 w51 w.heap.size (fun k_ => some k_ ≠ (.slice (some ad223) x5_1.length co49 : Value).ownBlock) (.slice (some ⟨go48, 0, none⟩) x7_2.length co48) y227 := (by rw [hw, Ny227.out]; exact HP50.1); clear HP50; have n0_ := Aside0.mk (Kd.R_after (v := (.slice (some ⟨go48, 0, none⟩) x7_2.length co48)) (v1 := (.slice (some ⟨go48, 0, none⟩) x7_2.length co48)) (ok := (fun _ => True)) (by (with_reducible repeat (first | apply Kd.R_alloc | apply Kd.R_drewN | apply Kd.R_drew)); exact Kd.R_mono HO_5.out (fun _ hk => ⟨trivial, hk⟩)) hg (.inl rfl)); have n1_ := Aside0.mk (hp_); have n2_ := Aside0.mk ((by rw [hw]; exact below_set (HB.out) GB48.out : Below w.heap.size w w51)); clear HO_5; clear HO_7; clear HB; have HO_5 := n0_; have HO_7 := n1_; have HB := n2_; clear n0_ n1_ n2_; clear hg hw hp_)))
                                            try (generalize hq_ : World.drewN wc nq = wc; have n0_ := Aside0.mk (Kd.R_at hq_ HO_5.out); have n1_ := Aside0.mk (Kd.R_at hq_ HO_7.out); have n2_ := Aside0.mk (below_at hq_ HB.out); clear hq_ HO_5 HO_7 HB; have HO_5 := n0_; have HO_7 := n1_; have HB := n2_; clear n0_ n1_ n2_; (try (have HP50 := Kd.R_putg HO_7.out (x8_2 : Int) false)); generalize hw0_ : (wc.setCell ⟨go48, (x8_2 : Int).toNat, none⟩ (.bool false)) = w51; have hw := hw0_.symm; clear hw0_; have hg : wc.grownBy w51 (some go48) := (by rw [hw]; exact HP50.2); have hp_ : Kd.R Kd.bool 4 w51 w.heap.size (fun k_ => some k_ ≠ (.slice (some ad223) x5_1.length co49 : Value).ownBlock) (.slice (some ⟨go48, 0, none⟩) x7_2.length co48) y227 := (by rw [hw, Ny227.out]; exact HP50.1); clear HP50; have n0_ := Aside0.mk (Kd.R_after (v := (.slice (some ⟨go48, 0, none⟩) x7_2.length co48)) (v1 := (.slice (some ⟨go48, 0, none⟩) x7_2.length co48)) (ok := (fun _ => True)) (by (with_reducible repeat (first | apply Kd.R_alloc | apply Kd.R_drewN | apply Kd.R_drew)); exact Kd.R_mono HO_5.out (fun _ hk => ⟨trivial, hk⟩)) hg (.inl rfl)); have n1_ := Aside0.mk (hp_); have n2_ := Aside0.mk ((by rw [hw]; exact below_set (HB.out) GB48.out : Below w.heap.size w w51)); clear HO_5; clear HO_7; clear HB; have HO_5 := n0_; have HO_7 := n1_; have HB := n2_; clear n0_ n1_ n2_; clear hg hw hp_)
                                            go_roundg kj22
                                            case measure => have := HK1.out; have := HK2.out; have := HJ14.out; have := HJ22.out; omega
                                            case rel => exact ⟨(y227), (wrap64 (x8_2 - 1)), (by first | rfl | (simp; done) | (simp [*]; done)), H', ⟨by have := HK1.out; have := HK2.out; have := HJ14.out; have := HJ22.out; omega⟩, ⟨by (with_reducible repeat (first | apply Kd.R_alloc | apply Kd.R_drewN | apply Kd.R_drew)); exact Kd.R_mono HO_5.out (fun _ hk => hk.2)⟩, ⟨by (with_reducible repeat (first | apply Kd.R_alloc | apply Kd.R_drewN | apply Kd.R_drew)); exact HO_7.out⟩, ⟨by repeat (first | (with_reducible first | exact HB.out | apply below_alloc | apply pw_below_drewN | apply below_drew1) | exact HB.out)⟩⟩
                                          · rw [if_neg c47] at H
                                            exact absurd H (by simp)
                                    · rw [if_neg c29] at H
                                      exact absurd H (by simp)
                                  · rw [if_neg c28] at H
                                    exact absurd H (by simp)
                                · replace c27 := Bool.eq_false_iff.mpr c27
                                  subst c27
                                  have H1 : (if x8_2 < (a1.size : Int) then (if 0 ≤ x8_2 then (secateurref21_Meets.j4 kj22 a0 a1 x5_1 x6_1 x7_2 x8_2 ((bt a1 x8_2) == 42)) else (none)) else (secateurref21_Meets.j4 kj22 a0 a1 x5_1 x6_1 x7_2 x8_2 false)) = some r := by rw [if_neg (show ¬ (false = true) by decide)] at H; exact H
                                  clear H
                                  have H := H1
                                  clear H1
                                  have HC52 := Aside0.mk H
                                  clear H
                                  go_upto_region 13 with (fail)
                                  repeat (go_quiet (fail); go_upto_region 13 with (fail))
                                  go_cut [74] (fun v74 wc => ∃ (kq : Nat) (x74_51 : Bool), v74 = .bool x74_51 ∧ Aside0 (secateurref21_Meets.j4 kq a0 a1 x5_1 x6_1 x7_2 x8_2 x74_51 = some r) ∧ Aside0 (kq ≤ kj22) ∧ Aside0 (Kd.R Kd.bool 4 wc w.heap.size (fun k_ => some k_ ≠ (v220 : Value).ownBlock) u5 x5_1) ∧ Aside0 (Kd.R Kd.bool 4 wc w.heap.size (fun k_ => some k_ ≠ (u5 : Value).ownBlock) v220 x7_2) ∧ Aside0 (Below w.heap.size w wc))
                                  case first =>
                                    have H := HC52.out
                                    clear HC52
                                    by_cases c53 : x8_2 < (a1.size : Int)
                                    · rw [if_pos c53] at H
                                      have c53b0 : decide (x8_2 < (a1.size : Int)) = true := decide_eq_true c53
                                      clear c53
                                      (first | rw [c53b0] | (simp only [i64_w, i32_w]; rw [c53b0]) | skip)
                                      by_cases c54 : 0 ≤ x8_2
                                      · rw [if_pos c54] at H
                                        have c54b0 : decide (0 ≤ x8_2) = true := decide_eq_true c54
                                        clear c54
                                        have H' := Aside0.mk H
                                        clear H
                                        have p55 : 0 ≤ (x8_2 : Int) := of_decide_eq_true (by first | (with_reducible assumption) | assumption)
                                        have q55 : x8_2 < (a1.size : Int) := of_decide_eq_true (by first | (with_reducible assumption) | assumption)
                                        have hx55 := bt_at a1 x8_2
                                        replace p55 := eq_true p55
                                        replace q55 := eq_true q55
                                        go_wp2
                                        repeat (go_quiet (fail); try go_wp2)
                                        go_meet
                                        case rel => exact ⟨_, (((bt a1 x8_2) == 42)), (by first | rfl | (simp; done) | (simp [*]; done)), H', ⟨by have := HK1.out; have := HK2.out; have := HJ14.out; have := HJ22.out; first | omega | exact Nat.le_refl _⟩, ⟨by (with_reducible repeat (first | apply Kd.R_alloc | apply Kd.R_drewN | apply Kd.R_drew)); exact HO_5.out⟩, ⟨by (with_reducible repeat (first | apply Kd.R_alloc | apply Kd.R_drewN | apply Kd.R_drew)); exact HO_7.out⟩, ⟨by repeat (first | (with_reducible first | exact HB.out | apply below_alloc | apply pw_below_drewN | apply below_drew1) | exact HB.out)⟩⟩
                                      · rw [if_neg c54] at H
                                        exact absurd H (by simp)
                                    · rw [if_neg c53] at H
                                      have c53b0 : decide (x8_2 < (a1.size : Int)) = false := decide_eq_false c53
                                      clear c53
                                      (first | rw [c53b0] | (simp only [i64_w, i32_w]; rw [c53b0]) | skip)
                                      have H' := Aside0.mk H
                                      clear H
                                      go_wp2
                                      repeat (go_quiet (fail); try go_wp2)
                                      go_meet
                                      case rel => exact ⟨_, (false), (by first | rfl | (simp; done) | (simp [*]; done)), H', ⟨by have := HK1.out; have := HK2.out; have := HJ14.out; have := HJ22.out; first | omega | exact Nat.le_refl _⟩, ⟨by (with_reducible repeat (first | apply Kd.R_alloc | apply Kd.R_drewN | apply Kd.R_drew)); exact HO_5.out⟩, ⟨by (with_reducible repeat (first | apply Kd.R_alloc | apply Kd.R_drewN | apply Kd.R_drew)); exact HO_7.out⟩, ⟨by repeat (first | (with_reducible first | exact HB.out | apply below_alloc | apply pw_below_drewN | apply below_drew1) | exact HB.out)⟩⟩
                                  case rest =>
                                    clear HC52
                                    try clear c1
                                    try clear c2
                                    try clear p2
                                    try clear q2
                                    try clear hx2
                                    try clear hf2
                                    try clear c3
                                    try clear p3
                                    try clear q3
                                    try clear hx3
                                    try clear hf3
                                    try clear c4
                                    try clear c4b0
                                    try clear c4b1
                                    try clear p4
                                    try clear q4
                                    try clear hx4
                                    try clear hf4
                                    try clear c5
                                    try clear c5b0
                                    try clear c5b1
                                    try clear p5
                                    try clear q5
                                    try clear hx5
                                    try clear p6
                                    try clear c8
                                    try clear c8b0
                                    try clear c10
                                    try clear c10b0
                                    try clear c10b1
                                    try clear c11
                                    try clear c11b0
                                    try clear c11b1
                                    try clear c14
                                    try clear c14b0
                                    try clear c16
                                    try clear c16b0
                                    try clear c16b1
                                    try clear c17
                                    try clear c18
                                    try clear c18b0
                                    try clear c19
                                    try clear c19b0
                                    try clear p20
                                    try clear q20
                                    try clear hx20
                                    try clear hf20
                                    try clear c22
                                    try clear p22
                                    try clear q22
                                    try clear hx22
                                    try clear c24
                                    try clear c24b0
                                    try clear c25
                                    try clear c25b0
                                    try clear p26
                                    try clear q26
                                    try clear hx26
                                    try clear c27
                                    try clear c28
                                    try clear c28b0
                                    try clear c29
                                    try clear c29b0
                                    try clear q30
                                    try clear c31
                                    try clear c32
                                    try clear c32b0
                                    try clear p33
                                    try clear q33
                                    try clear hx33
                                    try clear hf33
                                    try clear c37
                                    try clear c37b0
                                    try clear c39
                                    try clear c39b0
                                    try clear c40
                                    try clear c40b0
                                    try clear c41
                                    try clear c41b0
                                    try clear p42
                                    try clear q42
                                    try clear hx42
                                    try clear hf42
                                    try clear c47
                                    try clear c47b0
                                    try clear p48
                                    try clear q48
                                    try clear hx48
                                    try clear hf48
                                    try clear c53
                                    try clear c53b0
                                    try clear c54
                                    try clear c54b0
                                    try clear p55
                                    try clear q55
                                    try clear hx55
                                    try clear hx20_0
                                    try clear hx223_0
                                    try clear hx225_0
                                    try clear hx33_0
                                    try clear hx42_0
                                    try clear hx48_0
                                    try clear p2
                                    try clear p20
                                    try clear p223
                                    try clear p225
                                    try clear p26
                                    try clear p33
                                    try clear p42
                                    try clear p48
                                    try clear p55
                                    try clear p6
                                    try clear q2
                                    try clear q20
                                    try clear q223
                                    try clear q225
                                    try clear q26
                                    try clear q33
                                    try clear q42
                                    try clear q48
                                    try clear q55
                                    obtain ⟨kq, x74_51, rfl, HA, HJ51, HO_5, HO_7, HB⟩ := hcut
                                    cases kq with
                                    | zero => exact absurd HA.out (by simp [secateurref21_Meets.j4])
                                    | succ kj51 =>
                                      have H := HA.out
                                      clear HA
                                      simp only [secateurref21_Meets.j4] at H
                                      by_cases c56 : x74_51 = true
                                      · subst c56
                                        have H1 : (if 0 ≤ (wrap64 (x8_2 + 1)) then (if (wrap64 (x8_2 + 1)) < (x7_2.length : Int) then (if rdOf false x7_2 (wrap64 (x8_2 + 1)) = true then (if 0 ≤ x8_2 then (if x8_2 < (x7_2.length : Int) then (secateurref21_Meets.l1 kj51 a0 a1 x5_1 x6_1 (x7_2.set (x8_2 : Int).toNat true) (wrap64 (x8_2 - 1))) else (none)) else (none)) else (if x6_1 < (a0.size : Int) then (if 0 ≤ x8_2 then (if x8_2 < (x5_1.length : Int) then (if x8_2 < (x7_2.length : Int) then (secateurref21_Meets.l1 kj51 a0 a1 x5_1 x6_1 (x7_2.set (x8_2 : Int).toNat (rdOf false x5_1 x8_2)) (wrap64 (x8_2 - 1))) else (none)) else (none)) else (none)) else (if 0 ≤ x8_2 then (if x8_2 < (x7_2.length : Int) then (secateurref21_Meets.l1 kj51 a0 a1 x5_1 x6_1 (x7_2.set (x8_2 : Int).toNat false) (wrap64 (x8_2 - 1))) else (none)) else (none)))) else (none)) else (none)) = some r := by rw [if_pos rfl] at H; exact H
                                        clear H
                                        have H := H1
                                        clear H1
                                        obtain ⟨ji57, hji57⟩ : ∃ j_ : Int, (wrap64 (x8_2 + 1)) = j_ := ⟨_, rfl⟩
                                        replace H : (if 0 ≤ (ji57) then (if (ji57) < (x7_2.length : Int) then (if rdOf false x7_2 (ji57) = true then (if 0 ≤ x8_2 then (if x8_2 < (x7_2.length : Int) then (secateurref21_Meets.l1 kj51 a0 a1 x5_1 x6_1 (x7_2.set (x8_2 : Int).toNat true) (wrap64 (x8_2 - 1))) else (none)) else (none)) else (if x6_1 < (a0.size : Int) then (if 0 ≤ x8_2 then (if x8_2 < (x5_1.length : Int) then (if x8_2 < (x7_2.length : Int) then (secateurref21_Meets.l1 kj51 a0 a1 x5_1 x6_1 (x7_2.set (x8_2 : Int).toNat (rdOf false x5_1 x8_2)) (wrap64 (x8_2 - 1))) else (none)) else (none)) else (none)) else (if 0 ≤ x8_2 then (if x8_2 < (x7_2.length : Int) then (secateurref21_Meets.l1 kj51 a0 a1 x5_1 x6_1 (x7_2.set (x8_2 : Int).toNat false) (wrap64 (x8_2 - 1))) else (none)) else (none)))) else (none)) else (none)) = some r := by first | (rw [hji57] at H; exact H) | (simp only [hji57] at H ⊢; exact H)
                                        have hji57w : (IntKind.i64.wrap (x8_2 + 1)) = ji57 := (i64_w _).trans hji57
                                        by_cases c58 : 0 ≤ (ji57)
                                        · rw [if_pos c58] at H
                                          have c58b0 : decide (0 ≤ (ji57)) = true := decide_eq_true c58
                                          clear c58
                                          by_cases c59 : (ji57) < (x7_2.length : Int)
                                          · rw [if_pos c59] at H
                                            have c59b0 : decide ((ji57) < (x7_2.length : Int)) = true := decide_eq_true c59
                                            clear c59
                                            obtain ⟨bq60, hbq60⟩ : ∃ b_ : Bool, b_ = (rdOf false x7_2 (ji57)) := ⟨_, rfl⟩
                                            replace H : (if bq60 = true then (if 0 ≤ x8_2 then (if x8_2 < (x7_2.length : Int) then (secateurref21_Meets.l1 kj51 a0 a1 x5_1 x6_1 (x7_2.set (x8_2 : Int).toNat true) (wrap64 (x8_2 - 1))) else (none)) else (none)) else (if x6_1 < (a0.size : Int) then (if 0 ≤ x8_2 then (if x8_2 < (x5_1.length : Int) then (if x8_2 < (x7_2.length : Int) then (secateurref21_Meets.l1 kj51 a0 a1 x5_1 x6_1 (x7_2.set (x8_2 : Int).toNat (rdOf false x5_1 x8_2)) (wrap64 (x8_2 - 1))) else (none)) else (none)) else (none)) else (if 0 ≤ x8_2 then (if x8_2 < (x7_2.length : Int) then (secateurref21_Meets.l1 kj51 a0 a1 x5_1 x6_1 (x7_2.set (x8_2 : Int).toNat false) (wrap64 (x8_2 - 1))) else (none)) else (none)))) = some r := by rw [← hbq60] at H; exact H
                                            have Nbq60 := Aside0.mk hbq60
                                            clear hbq60
                                            by_cases c61 : bq60 = true
                                            · subst c61
                                              have H1 : (if 0 ≤ x8_2 then (if x8_2 < (x7_2.length : Int) then (secateurref21_Meets.l1 kj51 a0 a1 x5_1 x6_1 (x7_2.set (x8_2 : Int).toNat true) (wrap64 (x8_2 - 1))) else (none)) else (none)) = some r := by rw [if_pos rfl] at H; exact H
                                              clear H
                                              have H := H1
                                              clear H1
                                              by_cases c62 : 0 ≤ x8_2
                                              · rw [if_pos c62] at H
                                                have c62b0 : decide (0 ≤ x8_2) = true := decide_eq_true c62
                                                clear c62
                                                by_cases c63 : x8_2 < (x7_2.length : Int)
                                                · rw [if_pos c63] at H
                                                  have c63b0 : decide (x8_2 < (x7_2.length : Int)) = true := decide_eq_true c63
                                                  clear c63
                                                  obtain ⟨y229, hy229⟩ : ∃ y_ : List Bool, y_ = (x7_2.set (x8_2 : Int).toNat true) := ⟨_, rfl⟩
                                                  replace H : (secateurref21_Meets.l1 kj51 a0 a1 x5_1 x6_1 y229 (wrap64 (x8_2 - 1))) = some r := by first | (rw [hy229]; with_reducible exact H) | (have H2_ := (Option.bind_some _ _).symm.trans H; rw [hy229]; with_reducible exact H2_) | (have H2_ := (Option.bind_some _ _).symm.trans H; with_reducible exact H2_) | with_reducible exact H | (rw [hy229]; exact H) | exact H
                                                  have Ny229 := Aside0.mk hy229
                                                  clear hy229
                                                  have H' := Aside0.mk H
                                                  clear H
                                                  obtain ⟨Ao65, co65, eo65⟩ := Kd.R_slice HO_7.out
                                                  subst eo65
                                                  have p228 : 0 ≤ ((ji57) : Int) := of_decide_eq_true (by first | (with_reducible assumption) | assumption)
                                                  have q228 : (ji57) < (x7_2.length : Int) := of_decide_eq_true (by first | (with_reducible assumption) | assumption)
                                                  obtain ⟨ad228, e228, hx228_0⟩ := Kd.at_bool (Kd.R_reads' HO_7.out).2.2 (ji57) p228 q228
                                                  (try rw [← Nbq60.out] at hx228_0)
                                                  cases e228
                                                  replace p228 := eq_true p228
                                                  replace q228 := eq_true q228
                                                  have p64 : 0 ≤ (x8_2 : Int) := of_decide_eq_true (by first | (with_reducible assumption) | assumption)
                                                  have q64 : (x8_2 : Int) < ((x7_2.length : Int) : Int) := of_decide_eq_true (by first | (with_reducible assumption) | assumption)
                                                  obtain ⟨go64, co64, eo64, gb64, gl64, cl64, HG64⟩ := Kd.R_form HO_7.out (by omega)
                                                  (first | cases eo64 | (injection eo64 with ea_ en_ ec_; (first | subst ea_ | (injection ea_ with ea_; subst ea_)); subst ec_; clear en_))
                                                  have GB64 := Aside0.mk gb64
                                                  have GG64 := Aside0.mk HG64
                                                  clear gb64 gl64 HG64
                                                  (first | simp only [add_plain] at hx228_0 | skip)
                                                  obtain ⟨hx64_0, hf64_0⟩ := Kd.R_celln false HO_7.out (x8_2 : Int) p64 q64
                                                  replace p64 := eq_true p64
                                                  replace q64 := eq_true q64
                                                  have HP66 := Kd.R_putg HO_7.out (x8_2 : Int) true
                                                  go_wp2_with (first | ((with_reducible refine gate_store (t := 4) (p := 104) rfl ?_); (try (rw [drewN_self wc]; generalize hq_ : World.drewN wc _ = wc; have n0_ := Aside0.mk (Kd.R_at hq_ HO_5.out); have n1_ := Aside0.mk (Kd.R_at hq_ HO_7.out); have n2_ := Aside0.mk (below_at hq_ HB.out); clear hq_ HO_5 HO_7 HB; have HO_5 := n0_; have HO_7 := n1_; have HB := n2_; clear n0_ n1_ n2_; (try (have HP66 := Kd.R_putg HO_7.out (x8_2 : Int) true)))); refine store_event (t := 4) (p := 104) (v := ?vo_w67) (w1 := (wc.setCell ⟨go64, (x8_2 : Int).toNat, none⟩ (.bool true))) ?hg ?ho ?hn ?hr ?_; (case ho => rfl); (case hg => rfl); (case hn => rfl); (case hr => first | (go_simp; done) | (go_simp; rfl)); intro w67 hw; have hg : wc.grownBy w67 (some go64) := (by rw [hw]; exact HP66.2); have hp_ : Kd.R Kd.bool 4 w67 w.heap.size (fun k_ => some k_ ≠ (u5 : Value).ownBlock) (.slice (some ⟨go64, 0, none⟩) x7_2.length co65) y229 := (by rw [hw, Ny229.out]; exact HP66.1); clear HP66; have n0_ := Aside0.mk (Kd.R_after (v := (.slice (some ⟨go64, 0, none⟩) x7_2.length co65)) (v1 := (.slice (some ⟨go64, 0, none⟩) x7_2.length co65)) (ok := (fun _ => True)) (by (with_reducible repeat (first | apply Kd.R_alloc | apply Kd.R_drewN | apply Kd.R_drew)); exact Kd.R_mono HO_5.out (fun _ hk => ⟨trivial, hk⟩)) hg (.inl rfl)); have n1_ := Aside0.mk (hp_); have n2_ := Aside0.mk ((by rw [hw]; exact below_set (HB.out) GB64.out : Below w.heap.size w w67)); clear HO_5; clear HO_7; clear HB; have HO_5 := n0_; have HO_7 := n1_; have HB := n2_; clear n0_ n1_ n2_; clear hg hw hp_))
                                                  repeat (go_quiet (first | ((with_reducible refine gate_store (t := 4) (p := 104) rfl ?_); (try (rw [drewN_self wc]; generalize hq_ : World.drewN wc _ = wc; have n0_ := Aside0.mk (Kd.R_at hq_ HO_5.out); have n1_ := Aside0.mk (Kd.R_at hq_ HO_7.out); have n2_ := Aside0.mk (below_at hq_ HB.out); clear hq_ HO_5 HO_7 HB; have HO_5 := n0_; have HO_7 := n1_; have HB := n2_; clear n0_ n1_ n2_; (try (have HP66 := Kd.R_putg HO_7.out (x8_2 : Int) true)))); refine store_event (t := 4) (p := 104) (v := ?vo_w67) (w1 := (wc.setCell ⟨go64, (x8_2 : Int).toNat, none⟩ (.bool true))) ?hg ?ho ?hn ?hr ?_; (case ho => rfl); (case hg => rfl); (case hn => rfl); (case hr => first | (go_simp; done) | (go_simp; rfl)); intro w67 hw; have hg : wc.grownBy w67 (some go64) := (by rw [hw]; exact HP66.2); have hp_ : Kd.R Kd.bool 4 w67 w.heap.size (fun k_ => some k_ ≠ (u5 : Value).ownBlock) (.slice (some ⟨go64, 0, none⟩) x7_2.length co65) y229 := (by rw [hw, Ny229.out]; exact HP66.1); clear HP66; have n0_ := Aside0.mk (Kd.R_after (v := (.slice (some ⟨go64, 0, none⟩) x7_2.length co65)) (v1 := (.slice (some ⟨go64, 0, none⟩) x7_2.length co65)) (ok := (fun _ => True)) (by (with_reducible repeat (first | apply Kd.R_alloc | apply Kd.R_drewN | apply Kd.R_drew)); exact Kd.R_mono HO_5.out (fun _ hk => ⟨trivial, hk⟩)) hg (.inl rfl)); have n1_ := Aside0.mk (hp_); have n2_ := Aside0.mk ((by rw [hw]; exact below_set (HB.out) GB64.out : Below w.heap.size w w67)); clear HO_5; clear HO_7; clear HB; have HO_5 := n0_; have HO_7 := n1_; have HB := n2_; clear n0_ n1_ n2_; clear hg hw hp_)); try go_wp2_with (first | ((with_reducible refine gate_store (t := 4) (p := 104) rfl ?_); (try (rw [drewN_self wc]; generalize hq_ : World.drewN wc _ = wc; have n0_ := Aside0.mk (Kd.R_at hq_ HO_5.out); have n1_ := Aside0.mk (Kd.R_at hq_ HO_7.out); have n2_ := Aside0.mk (below_at hq_ HB.out); clear hq_ HO_5 HO_7 HB; have HO_5 := n0_; have HO_7 := n1_; have HB := n2_; clear n0_ n1_ n2_; (try (have HP66 := Kd.R_putg HO_7.out (x8_2 : Int) true)))); refine store_event (t := 4) (p := 104) (v := ?vo_w67) (w1 := (wc.setCell ⟨go64, (x8_2 : Int).toNat, none⟩ (.bool true))) ?hg ?ho ?hn ?hr ?_; (case ho => rfl); (case hg => rfl); (case hn => rfl); (case hr => first | (go_simp; done) | (go_simp; rfl)); intro w67 hw; have hg : wc.grownBy w67 (some go64) := (by rw [hw]; exact HP66.2); have hp_ : Kd.R Kd.bool 4 w67 w.heap.size (fun k_ => some k_ ≠ (u5 : Value).ownBlock) (.slice (some ⟨go64, 0, none⟩) x7_2.length co65) y229 := (by rw [hw, Ny229.out]; exact HP66.1); clear HP66; have n0_ := Aside0.mk (Kd.R_after (v := (.slice (some ⟨go64, 0, none⟩) x7_2.length co65)) (v1 := (.slice (some ⟨go64, 0, none⟩) x7_2.length co65)) (ok := (fun _ => True)) (by (with_reducible repeat (first | apply Kd.R_alloc | apply Kd.R_drewN | apply Kd.R_drew)); exact Kd.R_mono HO_5.out (fun _ hk => ⟨trivial, hk⟩)) hg (.inl rfl)); have n1_ := Aside0.mk (hp_); have n2_ := Aside0.mk ((by rw [hw]; exact below_set (HB.out) GB64.out : Below w.heap.size w w67)); clear HO_5; clear HO_7; clear HB; have HO_5 := n0_; have HO_7 := n1_; have HB := n2_; clear n0_ n1_ n2_; clear hg hw hp_)))
                                                  try (generalize hq_ : World.drewN wc nq = wc; have n0_ := Aside0.mk (Kd.R_at hq_ HO_5.out); have n1_ := Aside0.mk (Kd.R_at hq_ HO_7.out); have n2_ := Aside0.mk (below_at hq_ HB.out); clear hq_ HO_5 HO_7 HB; have HO_5 := n0_; have HO_7 := n1_; have HB := n2_; clear n0_ n1_ n2_; (try (have HP66 := Kd.R_putg HO_7.out (x8_2 : Int) true)); generalize hw0_ : (wc.setCell ⟨go64, (x8_2 : Int).toNat, none⟩ (.bool true)) = w67; have hw := hw0_.symm; clear hw0_; have hg : wc.grownBy w67 (some go64) := (by rw [hw]; exact HP66.2); have hp_ : Kd.R Kd.bool 4 w67 w.heap.size (fun k_ => some k_ ≠ (u5 : Value).ownBlock) (.slice (some ⟨go64, 0, none⟩) x7_2.length co65) y229 := (by rw [hw, Ny229.out]; exact HP66.1); clear HP66; have n0_ := Aside0.mk (Kd.R_after (v := (.slice (some ⟨go64, 0, none⟩) x7_2.length co65)) (v1 := (.slice (some ⟨go64, 0, none⟩) x7_2.length co65)) (ok := (fun _ => True)) (by (with_reducible repeat (first | apply Kd.R_alloc | apply Kd.R_drewN | apply Kd.R_drew)); exact Kd.R_mono HO_5.out (fun _ hk => ⟨trivial, hk⟩)) hg (.inl rfl)); have n1_ := Aside0.mk (hp_); have n2_ := Aside0.mk ((by rw [hw]; exact below_set (HB.out) GB64.out : Below w.heap.size w w67)); clear HO_5; clear HO_7; clear HB; have HO_5 := n0_; have HO_7 := n1_; have HB := n2_; clear n0_ n1_ n2_; clear hg hw hp_)
                                                  go_roundg kj51
                                                  case measure => have := HK1.out; have := HK2.out; have := HJ14.out; have := HJ22.out; have := HJ51.out; omega
                                                  case rel => exact ⟨(y229), (wrap64 (x8_2 - 1)), (by first | rfl | (simp; done) | (simp [*]; done)), H', ⟨by have := HK1.out; have := HK2.out; have := HJ14.out; have := HJ22.out; have := HJ51.out; omega⟩, ⟨by (with_reducible repeat (first | apply Kd.R_alloc | apply Kd.R_drewN | apply Kd.R_drew)); exact Kd.R_mono HO_5.out (fun _ hk => hk.2)⟩, ⟨by (with_reducible repeat (first | apply Kd.R_alloc | apply Kd.R_drewN | apply Kd.R_drew)); exact HO_7.out⟩, ⟨by repeat (first | (with_reducible first | exact HB.out | apply below_alloc | apply pw_below_drewN | apply below_drew1) | exact HB.out)⟩⟩
                                                · rw [if_neg c63] at H
                                                  exact absurd H (by simp)
                                              · rw [if_neg c62] at H
                                                exact absurd H (by simp)
                                            · replace c61 := Bool.eq_false_iff.mpr c61
                                              subst c61
                                              have H1 : (if x6_1 < (a0.size : Int) then (if 0 ≤ x8_2 then (if x8_2 < (x5_1.length : Int) then (if x8_2 < (x7_2.length : Int) then (secateurref21_Meets.l1 kj51 a0 a1 x5_1 x6_1 (x7_2.set (x8_2 : Int).toNat (rdOf false x5_1 x8_2)) (wrap64 (x8_2 - 1))) else (none)) else (none)) else (none)) else (if 0 ≤ x8_2 then (if x8_2 < (x7_2.length : Int) then (secateurref21_Meets.l1 kj51 a0 a1 x5_1 x6_1 (x7_2.set (x8_2 : Int).toNat false) (wrap64 (x8_2 - 1))) else (none)) else (none))) = some r := by rw [if_neg (show ¬ (false = true) by decide)] at H; exact H
                                              clear H
                                              have H := H1
                                              clear H1
                                              by_cases c68 : x6_1 < (a0.size : Int)
                                              · rw [if_pos c68] at H
                                                have c68b0 : decide (x6_1 < (a0.size : Int)) = true := decide_eq_true c68
                                                clear c68
                                                by_cases c69 : 0 ≤ x8_2
                                                · rw [if_pos c69] at H
                                                  have c69b0 : decide (0 ≤ x8_2) = true := decide_eq_true c69
                                                  clear c69
                                                  by_cases c70 : x8_2 < (x5_1.length : Int)
                                                  · rw [if_pos c70] at H
                                                    have c70b0 : decide (x8_2 < (x5_1.length : Int)) = true := decide_eq_true c70
                                                    clear c70
                                                    by_cases c71 : x8_2 < (x7_2.length : Int)
                                                    · rw [if_pos c71] at H
                                                      have c71b0 : decide (x8_2 < (x7_2.length : Int)) = true := decide_eq_true c71
                                                      clear c71
                                                      obtain ⟨y231, hy231⟩ : ∃ y_ : List Bool, y_ = (x7_2.set (x8_2 : Int).toNat (rdOf false x5_1 x8_2)) := ⟨_, rfl⟩
                                                      replace H : (secateurref21_Meets.l1 kj51 a0 a1 x5_1 x6_1 y231 (wrap64 (x8_2 - 1))) = some r := by first | (rw [hy231]; with_reducible exact H) | (have H2_ := (Option.bind_some _ _).symm.trans H; rw [hy231]; with_reducible exact H2_) | (have H2_ := (Option.bind_some _ _).symm.trans H; with_reducible exact H2_) | with_reducible exact H | (rw [hy231]; exact H) | exact H
                                                      have Ny231 := Aside0.mk hy231
                                                      clear hy231
                                                      have H' := Aside0.mk H
                                                      clear H
                                                      obtain ⟨Ao73, co73, eo73⟩ := Kd.R_slice HO_7.out
                                                      subst eo73
                                                      have p228 : 0 ≤ ((ji57) : Int) := of_decide_eq_true (by first | (with_reducible assumption) | assumption)
                                                      have q228 : (ji57) < (x7_2.length : Int) := of_decide_eq_true (by first | (with_reducible assumption) | assumption)
                                                      obtain ⟨ad228, e228, hx228_0⟩ := Kd.at_bool (Kd.R_reads' HO_7.out).2.2 (ji57) p228 q228
                                                      (try rw [← Nbq60.out] at hx228_0)
                                                      cases e228
                                                      replace p228 := eq_true p228
                                                      replace q228 := eq_true q228
                                                      obtain ⟨Ao74, co74, eo74⟩ := Kd.R_slice HO_5.out
                                                      subst eo74
                                                      have p230 : 0 ≤ (x8_2 : Int) := of_decide_eq_true (by first | (with_reducible assumption) | assumption)
                                                      have q230 : x8_2 < (x5_1.length : Int) := of_decide_eq_true (by first | (with_reducible assumption) | assumption)
                                                      obtain ⟨ad230, e230, hx230_0⟩ := Kd.at_bool (Kd.R_reads' HO_5.out).2.2 x8_2 p230 q230
                                                      (try rw [← Nbq60.out] at hx230_0)
                                                      cases e230
                                                      replace p230 := eq_true p230
                                                      replace q230 := eq_true q230
                                                      have p72 : 0 ≤ (x8_2 : Int) := of_decide_eq_true (by first | (with_reducible assumption) | assumption)
                                                      have q72 : (x8_2 : Int) < ((x7_2.length : Int) : Int) := of_decide_eq_true (by first | (with_reducible assumption) | assumption)
                                                      obtain ⟨go72, co72, eo72, gb72, gl72, cl72, HG72⟩ := Kd.R_form HO_7.out (by omega)
                                                      (first | cases eo72 | (injection eo72 with ea_ en_ ec_; (first | subst ea_ | (injection ea_ with ea_; subst ea_)); subst ec_; clear en_))
                                                      have GB72 := Aside0.mk gb72
                                                      have GG72 := Aside0.mk HG72
                                                      clear gb72 gl72 HG72
                                                      (first | simp only [add_plain] at hx228_0 | skip)
                                                      obtain ⟨hx72_0, hf72_0⟩ := Kd.R_celln false HO_7.out (x8_2 : Int) p72 q72
                                                      replace p72 := eq_true p72
                                                      replace q72 := eq_true q72
                                                      have HP75 := Kd.R_putg HO_7.out (x8_2 : Int) (rdOf false x5_1 x8_2)
                                                      go_wp2_with (first | ((with_reducible refine gate_store (t := 4) (p := 104) rfl ?_); (try (rw [drewN_self wc]; generalize hq_ : World.drewN wc _ = wc; have n0_ := Aside0.mk (Kd.R_at hq_ HO_5.out); have n1_ := Aside0.mk (Kd.R_at hq_ HO_7.out); have n2_ := Aside0.mk (below_at hq_ HB.out); clear hq_ HO_5 HO_7 HB; have HO_5 := n0_; have HO_7 := n1_; have HB := n2_; clear n0_ n1_ n2_; (try (have HP75 := Kd.R_putg HO_7.out (x8_2 : Int) (rdOf false x5_1 x8_2))))); refine store_event (t := 4) (p := 104) (v := ?vo_w76) (w1 := (wc.setCell ⟨go72, (x8_2 : Int).toNat, none⟩ (.bool (rdOf false x5_1 x8_2)))) ?hg ?ho ?hn ?hr ?_; (case ho => rfl); (case hg => rfl); (case hn => rfl); (case hr => first | (go_simp; done) | (go_simp; rfl)); intro w76 hw; have hg : wc.grownBy w76 (some go72) := (by rw [hw]; exact HP75.2); have hp_ : Kd.R Kd.bool 4 w76 w.heap.size (fun k_ => some k_ ≠ (.slice (some ad230) x5_1.length co74 : Value).ownBlock) (.slice (some ⟨go72, 0, none⟩) x7_2.length co73) y231 := (by rw [hw, Ny231.out]; exact HP75.1); clear HP75; have n0_ := Aside0.mk (Kd.R_after (v := (.slice (some ⟨go72, 0, none⟩) x7_2.length co73)) (v1 := (.slice (some ⟨go72, 0, none⟩) x7_2.length co73)) (ok := (fun _ => True)) (by (with_reducible repeat (first | apply Kd.R_alloc | apply Kd.R_drewN | apply Kd.R_drew)); exact Kd.R_mono HO_5.out (fun _ hk => ⟨trivial, hk⟩)) hg (.inl rfl)); have n1_ := Aside0.mk (hp_); have n2_ := Aside0.mk ((by rw [hw]; exact below_set (HB.out) GB72.out : Below w.heap.size w w76)); clear HO_5; clear HO_7; clear HB; have HO_5 := n0_; have HO_7 := n1_; have HB := n2_; clear n0_ n1_ n2_; clear hg hw hp_))
                                                      repeat (go_quiet (first | ((with_reducible refine gate_store (t := 4) (p := 104) rfl ?_); (try (rw [drewN_self wc]; generalize hq_ : World.drewN wc _ = wc; have n0_ := Aside0.mk (Kd.R_at hq_ HO_5.out); have n1_ := Aside0.mk (Kd.R_at hq_ HO_7.out); have n2_ := Aside0.mk (below_at hq_ HB.out); clear hq_ HO_5 HO_7 HB; have HO_5 := n0_; have HO_7 := n1_; have HB := n2_; clear n0_ n1_ n2_; (try (have HP75 := Kd.R_putg HO_7.out (x8_2 : Int) (rdOf false x5_1 x8_2))))); refine store_event (t := 4) (p := 104) (v := ?vo_w76) (w1 := (wc.setCell ⟨go72, (x8_2 : Int).toNat, none⟩ (.bool (rdOf false x5_1 x8_2)))) ?hg ?ho ?hn ?hr ?_; (case ho => rfl); (case hg => rfl); (case hn => rfl); (case hr => first | (go_simp; done) | (go_simp; rfl)); intro w76 hw; have hg : wc.grownBy w76 (some go72) := (by rw [hw]; exact HP75.2); have hp_ : Kd.R Kd.bool 4 w76 w.heap.size (fun k_ => some k_ ≠ (.slice (some ad230) x5_1.length co74 : Value).ownBlock) (.slice (some ⟨go72, 0, none⟩) x7_2.length co73) y231 := (by rw [hw, Ny231.out]; exact HP75.1); clear HP75; have n0_ := Aside0.mk (Kd.R_after (v := (.slice (some ⟨go72, 0, none⟩) x7_2.length co73)) (v1 := (.slice (some ⟨go72, 0, none⟩) x7_2.length co73)) (ok := (fun _ => True)) (by (with_reducible repeat (first | apply Kd.R_alloc | apply Kd.R_drewN | apply Kd.R_drew)); exact Kd.R_mono HO_5.out (fun _ hk => ⟨trivial, hk⟩)) hg (.inl rfl)); have n1_ := Aside0.mk (hp_); have n2_ := Aside0.mk ((by rw [hw]; exact below_set (HB.out) GB72.out : Below w.heap.size w w76)); clear HO_5; clear HO_7; clear HB; have HO_5 := n0_; have HO_7 := n1_; have HB := n2_; clear n0_ n1_ n2_; clear hg hw hp_)); try go_wp2_with (first | ((with_reducible refine gate_store (t := 4) (p := 104) rfl ?_); (try (rw [drewN_self wc]; generalize hq_ : World.drewN wc _ = wc; have n0_ := Aside0.mk (Kd.R_at hq_ HO_5.out); have n1_ := Aside0.mk (Kd.R_at hq_ HO_7.out); have n2_ := Aside0.mk (below_at hq_ HB.out); clear hq_ HO_5 HO_7 HB; have HO_5 := n0_; have HO_7 := n1_; have HB := n2_; clear n0_ n1_ n2_; (try (have HP75 := Kd.R_putg HO_7.out (x8_2 : Int) (rdOf false x5_1 x8_2))))); refine store_event (t := 4) (p := 104) (v := ?vo_w76) (w1 := (wc.setCell ⟨go72, (x8_2 : Int).toNat, none⟩ (.bool (rdOf false x5_1 x8_2)))) ?hg ?ho ?hn ?hr ?_; (case ho => rfl); (case hg => rfl); (case hn => rfl); (case hr => first | (go_simp; done) | (go_simp; rfl)); intro w76 hw; have hg : wc.grownBy w76 (some go72) := (by rw [hw]; exact HP75.2); have hp_ : Kd.R Kd.bool 4 w76 w.heap.size (fun k_ => some k_ ≠ (.slice (some ad230) x5_1.length co74 : Value).ownBlock) (.slice (some ⟨go72, 0, none⟩) x7_2.length co73) y231 := (by rw [hw, Ny231.out]; exact HP75.1); clear HP75; have n0_ := Aside0.mk (Kd.R_after (v := (.slice (some ⟨go72, 0, none⟩) x7_2.length co73)) (v1 := (.slice (some ⟨go72, 0, none⟩) x7_2.length co73)) (ok := (fun _ => True)) (by (with_reducible repeat (first | apply Kd.R_alloc | apply Kd.R_drewN | apply Kd.R_drew)); exact Kd.R_mono HO_5.out (fun _ hk => ⟨trivial, hk⟩)) hg (.inl rfl)); have n1_ := Aside0.mk (hp_); have n2_ := Aside0.mk ((by rw [hw]; exact below_set (HB.out) GB72.out : Below w.heap.size w w76)); clear HO_5; clear HO_7; clear HB; have HO_5 := n0_; have HO_7 := n1_; have HB := n2_; clear n0_ n1_ n2_; clear hg hw hp_)))
                                                      try (generalize hq_ : World.drewN wc nq = wc; have n0_ := Aside0.mk (Kd.R_at hq_ HO_5.out); have n1_ := Aside0.mk (Kd.R_at hq_ HO_7.out); have n2_ := Aside0.mk (below_at hq_ HB.out); clear hq_ HO_5 HO_7 HB; have HO_5 := n0_; have HO_7 := n1_; have HB := n2_; clear n0_ n1_ n2_; (try (have HP75 := Kd.R_putg HO_7.out (x8_2 : Int) (rdOf false x5_1 x8_2))); generalize hw0_ : (wc.setCell ⟨go72, (x8_2 : Int).toNat, none⟩ (.bool (rdOf false x5_1 x8_2))) = w76; have hw := hw0_.symm; clear hw0_; have hg : wc.grownBy w76 (some go72) := (by rw [hw]; exact HP75.2); have hp_ : Kd.R Kd.bool 4 w76 w.heap.size (fun k_ => some k_ ≠ (.slice (some ad230) x5_1.length co74 : Value).ownBlock) (.slice (some ⟨go72, 0, none⟩) x7_2.length co73) y231 := (by rw [hw, Ny231.out]; exact HP75.1); clear HP75; have n0_ := Aside0.mk (Kd.R_after (v := (.slice (some ⟨go72, 0, none⟩) x7_2.length co73)) (v1 := (.slice (some ⟨go72, 0, none⟩) x7_2.length co73)) (ok := (fun _ => True)) (by (with_reducible repeat (first | apply Kd.R_alloc | apply Kd.R_drewN | apply Kd.R_drew)); exact Kd.R_mono HO_5.out (fun _ hk => ⟨trivial, hk⟩)) hg (.inl rfl)); have n1_ := Aside0.mk (hp_); have n2_ := Aside0.mk ((by rw [hw]; exact below_set (HB.out) GB72.out : Below w.heap.size w w76)); clear HO_5; clear HO_7; clear HB; have HO_5 := n0_; have HO_7 := n1_; have HB := n2_; clear n0_ n1_ n2_; clear hg hw hp_)
                                                      go_roundg kj51
                                                      case measure => have := HK1.out; have := HK2.out; have := HJ14.out; have := HJ22.out; have := HJ51.out; omega
                                                      case rel => exact ⟨(y231), (wrap64 (x8_2 - 1)), (by first | rfl | (simp; done) | (simp [*]; done)), H', ⟨by have := HK1.out; have := HK2.out; have := HJ14.out; have := HJ22.out; have := HJ51.out; omega⟩, ⟨by (with_reducible repeat (first | apply Kd.R_alloc | apply Kd.R_drewN | apply Kd.R_drew)); exact Kd.R_mono HO_5.out (fun _ hk => hk.2)⟩, ⟨by (with_reducible repeat (first | apply Kd.R_alloc | apply Kd.R_drewN | apply Kd.R_drew)); exact HO_7.out⟩, ⟨by repeat (first | (with_reducible first | exact HB.out | apply below_alloc | apply pw_below_drewN | apply below_drew1) | exact HB.out)⟩⟩
                                                    · rw [if_neg c71] at H
                                                      exact absurd H (by simp)
                                                  · rw [if_neg c70] at H
                                                    exact absurd H (by simp)
                                                · rw [if_neg c69] at H
                                                  exact absurd H (by simp)
                                              · rw [if_neg c68] at H
                                                have c68b0 : decide (x6_1 < (a0.size : Int)) = false := decide_eq_false c68
                                                clear c68
                                                by_cases c77 : 0 ≤ x8_2
                                                · rw [if_pos c77] at H
                                                  have c77b0 : decide (0 ≤ x8_2) = true := decide_eq_true c77
                                                  clear c77
                                                  by_cases c78 : x8_2 < (x7_2.length : Int)
                                                  · rw [if_pos c78] at H
                                                    have c78b0 : decide (x8_2 < (x7_2.length : Int)) = true := decide_eq_true c78
                                                    clear c78
                                                    obtain ⟨y232, hy232⟩ : ∃ y_ : List Bool, y_ = (x7_2.set (x8_2 : Int).toNat false) := ⟨_, rfl⟩
                                                    replace H : (secateurref21_Meets.l1 kj51 a0 a1 x5_1 x6_1 y232 (wrap64 (x8_2 - 1))) = some r := by first | (rw [hy232]; with_reducible exact H) | (have H2_ := (Option.bind_some _ _).symm.trans H; rw [hy232]; with_reducible exact H2_) | (have H2_ := (Option.bind_some _ _).symm.trans H; with_reducible exact H2_) | with_reducible exact H | (rw [hy232]; exact H) | exact H
                                                    have Ny232 := Aside0.mk hy232
                                                    clear hy232
                                                    have H' := Aside0.mk H
                                                    clear H
                                                    obtain ⟨Ao80, co80, eo80⟩ := Kd.R_slice HO_7.out
                                                    subst eo80
                                                    have p228 : 0 ≤ ((ji57) : Int) := of_decide_eq_true (by first | (with_reducible assumption) | assumption)
                                                    have q228 : (ji57) < (x7_2.length : Int) := of_decide_eq_true (by first | (with_reducible assumption) | assumption)
                                                    obtain ⟨ad228, e228, hx228_0⟩ := Kd.at_bool (Kd.R_reads' HO_7.out).2.2 (ji57) p228 q228
                                                    (try rw [← Nbq60.out] at hx228_0)
                                                    cases e228
                                                    replace p228 := eq_true p228
                                                    replace q228 := eq_true q228
                                                    have p79 : 0 ≤ (x8_2 : Int) := of_decide_eq_true (by first | (with_reducible assumption) | assumption)
                                                    have q79 : (x8_2 : Int) < ((x7_2.length : Int) : Int) := of_decide_eq_true (by first | (with_reducible assumption) | assumption)
                                                    obtain ⟨go79, co79, eo79, gb79, gl79, cl79, HG79⟩ := Kd.R_form HO_7.out (by omega)
                                                    (first | cases eo79 | (injection eo79 with ea_ en_ ec_; (first | subst ea_ | (injection ea_ with ea_; subst ea_)); subst ec_; clear en_))
                                                    have GB79 := Aside0.mk gb79
                                                    have GG79 := Aside0.mk HG79
                                                    clear gb79 gl79 HG79
                                                    (first | simp only [add_plain] at hx228_0 | skip)
                                                    obtain ⟨hx79_0, hf79_0⟩ := Kd.R_celln false HO_7.out (x8_2 : Int) p79 q79
                                                    replace p79 := eq_true p79
                                                    replace q79 := eq_true q79
                                                    have HP81 := Kd.R_putg HO_7.out (x8_2 : Int) false
                                                    go_wp2_with (first | ((with_reducible refine gate_store (t := 4) (p := 104) rfl ?_); (try (rw [drewN_self wc]; generalize hq_ : World.drewN wc _ = wc; have n0_ := Aside0.mk (Kd.R_at hq_ HO_5.out); have n1_ := Aside0.mk (Kd.R_at hq_ HO_7.out); have n2_ := Aside0.mk (below_at hq_ HB.out); clear hq_ HO_5 HO_7 HB; have HO_5 := n0_; have HO_7 := n1_; have HB := n2_; clear n0_ n1_ n2_; (try (have HP81 := Kd.R_putg HO_7.out (x8_2 : Int) false)))); refine store_event (t := 4) (p := 104) (v := ?vo_w82) (w1 := (wc.setCell ⟨go79, (x8_2 : Int).toNat, none⟩ (.bool false))) ?hg ?ho ?hn ?hr ?_; (case ho => rfl); (case hg => rfl); (case hn => rfl); (case hr => first | (go_simp; done) | (go_simp; rfl)); intro w82 hw; have hg : wc.grownBy w82 (some go79) := (by rw [hw]; exact HP81.2); have hp_ : Kd.R Kd.bool 4 w82 w.heap.size (fun k_ => some k_ ≠ (u5 : Value).ownBlock) (.slice (some ⟨go79, 0, none⟩) x7_2.length co80) y232 := (by rw [hw, Ny232.out]; exact HP81.1); clear HP81; have n0_ := Aside0.mk (Kd.R_after (v := (.slice (some ⟨go79, 0, none⟩) x7_2.length co80)) (v1 := (.slice (some ⟨go79, 0, none⟩) x7_2.length co80)) (ok := (fun _ => True)) (by (with_reducible repeat (first | apply Kd.R_alloc | apply Kd.R_drewN | apply Kd.R_drew)); exact Kd.R_mono HO_5.out (fun _ hk => ⟨trivial, hk⟩)) hg (.inl rfl)); have n1_ := Aside0.mk (hp_); have n2_ := Aside0.mk ((by rw [hw]; exact below_set (HB.out) GB79.out : Below w.heap.size w w82)); clear HO_5; clear HO_7; clear HB; have HO_5 := n0_; have HO_7 := n1_; have HB := n2_; clear n0_ n1_ n2_; clear hg hw hp_))
                                                    repeat (go_quiet (first | ((with_reducible refine gate_store (t := 4) (p := 104) rfl ?_); (try (rw [drewN_self wc]; generalize hq_ : World.drewN wc _ = wc; have n0_ := Aside0.mk (Kd.R_at hq_ HO_5.out); have n1_ := Aside0.mk (Kd.R_at hq_ HO_7.out); have n2_ := Aside0.mk (below_at hq_ HB.out); clear hq_ HO_5 HO_7 HB; have HO_5 := n0_; have HO_7 := n1_; have HB := n2_; clear n0_ n1_ n2_; (try (have HP81 := Kd.R_putg HO_7.out (x8_2 : Int) false)))); refine store_event (t := 4) (p := 104) (v := ?vo_w82) (w1 := (wc.setCell ⟨go79, (x8_2 : Int).toNat, none⟩ (.bool false))) ?hg ?ho ?hn ?hr ?_; (case ho => rfl); (case hg => rfl); (case hn => rfl); (case hr => first | (go_simp; done) | (go_simp; rfl)); intro w82 hw; have hg : wc.grownBy w82 (some go79) := (by rw [hw]; exact HP81.2); have hp_ : Kd.R Kd.bool 4 w82 w.heap.size (fun k_ => some k_ ≠ (u5 : Value).ownBlock) (.slice (some ⟨go79, 0, none⟩) x7_2.length co80) y232 := (by rw [hw, Ny232.out]; exact HP81.1); clear HP81; have n0_ := Aside0.mk (Kd.R_after (v := (.slice (some ⟨go79, 0, none⟩) x7_2.length co80)) (v1 := (.slice (some ⟨go79, 0, none⟩) x7_2.length co80)) (ok := (fun _ => True)) (by (with_reducible repeat (first | apply Kd.R_alloc | apply Kd.R_drewN | apply Kd.R_drew)); exact Kd.R_mono HO_5.out (fun _ hk => ⟨trivial, hk⟩)) hg (.inl rfl)); have n1_ := Aside0.mk (hp_); have n2_ := Aside0.mk ((by rw [hw]; exact below_set (HB.out) GB79.out : Below w.heap.size w w82)); clear HO_5; clear HO_7; clear HB; have HO_5 := n0_; have HO_7 := n1_; have HB := n2_; clear n0_ n1_ n2_; clear hg hw hp_)); try go_wp2_with (first | ((with_reducible refine gate_store (t := 4) (p := 104) rfl ?_); (try (rw [drewN_self wc]; generalize hq_ : World.drewN wc _ = wc; have n0_ := Aside0.mk (Kd.R_at hq_ HO_5.out); have n1_ := Aside0.mk (Kd.R_at hq_ HO_7.out); have n2_ := Aside0.mk (below_at hq_ HB.out); clear hq_ HO_5 HO_7 HB; have HO_5 := n0_; have HO_7 := n1_; have HB := n2_; clear n0_ n1_ n2_; (try (have HP81 := Kd.R_putg HO_7.out (x8_2 : Int) false)))); refine store_event (t := 4) (p := 104) (v := ?vo_w82) (w1 := (wc.setCell ⟨go79, (x8_2 : Int).toNat, none⟩ (.bool false))) ?hg ?ho ?hn ?hr ?_; (case ho => rfl); (case hg => rfl); (case hn => rfl); (case hr => first | (go_simp; done) | (go_simp; rfl)); intro w82 hw; have hg : wc.grownBy w82 (some go79) := (by rw [hw]; exact HP81.2); have hp_ : Kd.R Kd.bool 4 w82 w.heap.size (fun k_ => some k_ ≠ (u5 : Value).ownBlock) (.slice (some ⟨go79, 0, none⟩) x7_2.length co80) y232 := (by rw [hw, Ny232.out]; exact HP81.1); clear HP81; have n0_ := Aside0.mk (Kd.R_after (v := (.slice (some ⟨go79, 0, none⟩) x7_2.length co80)) (v1 := (.slice (some ⟨go79, 0, none⟩) x7_2.length co80)) (ok := (fun _ => True)) (by (with_reducible repeat (first | apply Kd.R_alloc | apply Kd.R_drewN | apply Kd.R_drew)); exact Kd.R_mono HO_5.out (fun _ hk => ⟨trivial, hk⟩)) hg (.inl rfl)); have n1_ := Aside0.mk (hp_); have n2_ := Aside0.mk ((by rw [hw]; exact below_set (HB.out) GB79.out : Below w.heap.size w w82)); clear HO_5; clear HO_7; clear HB; have HO_5 := n0_; have HO_7 := n1_; have HB := n2_; clear n0_ n1_ n2_; clear hg hw hp_)))
                                                    try (generalize hq_ : World.drewN wc nq = wc; have n0_ := Aside0.mk (Kd.R_at hq_ HO_5.out); have n1_ := Aside0.mk (Kd.R_at hq_ HO_7.out); have n2_ := Aside0.mk (below_at hq_ HB.out); clear hq_ HO_5 HO_7 HB; have HO_5 := n0_; have HO_7 := n1_; have HB := n2_; clear n0_ n1_ n2_; (try (have HP81 := Kd.R_putg HO_7.out (x8_2 : Int) false)); generalize hw0_ : (wc.setCell ⟨go79, (x8_2 : Int).toNat, none⟩ (.bool false)) = w82; have hw := hw0_.symm; clear hw0_; have hg : wc.grownBy w82 (some go79) := (by rw [hw]; exact HP81.2); have hp_ : Kd.R Kd.bool 4 w82 w.heap.size (fun k_ => some k_ ≠ (u5 : Value).ownBlock) (.slice (some ⟨go79, 0, none⟩) x7_2.length co80) y232 := (by rw [hw, Ny232.out]; exact HP81.1); clear HP81; have n0_ := Aside0.mk (Kd.R_after (v := (.slice (some ⟨go79, 0, none⟩) x7_2.length co80)) (v1 := (.slice (some ⟨go79, 0, none⟩) x7_2.length co80)) (ok := (fun _ => True)) (by (with_reducible repeat (first | apply Kd.R_alloc | apply Kd.R_drewN | apply Kd.R_drew)); exact Kd.R_mono HO_5.out (fun _ hk => ⟨trivial, hk⟩)) hg (.inl rfl)); have n1_ := Aside0.mk (hp_); have n2_ := Aside0.mk ((by rw [hw]; exact below_set (HB.out) GB79.out : Below w.heap.size w w82)); clear HO_5; clear HO_7; clear HB; have HO_5 := n0_; have HO_7 := n1_; have HB := n2_; clear n0_ n1_ n2_; clear hg hw hp_)
                                                    go_roundg kj51
                                                    case measure => have := HK1.out; have := HK2.out; have := HJ14.out; have := HJ22.out; have := HJ51.out; omega
                                                    case rel => exact ⟨(y232), (wrap64 (x8_2 - 1)), (by first | rfl | (simp; done) | (simp [*]; done)), H', ⟨by have := HK1.out; have := HK2.out; have := HJ14.out; have := HJ22.out; have := HJ51.out; omega⟩, ⟨by (with_reducible repeat (first | apply Kd.R_alloc | apply Kd.R_drewN | apply Kd.R_drew)); exact Kd.R_mono HO_5.out (fun _ hk => hk.2)⟩, ⟨by (with_reducible repeat (first | apply Kd.R_alloc | apply Kd.R_drewN | apply Kd.R_drew)); exact HO_7.out⟩, ⟨by repeat (first | (with_reducible first | exact HB.out | apply below_alloc | apply pw_below_drewN | apply below_drew1) | exact HB.out)⟩⟩
                                                  · rw [if_neg c78] at H
                                                    exact absurd H (by simp)
                                                · rw [if_neg c77] at H
                                                  exact absurd H (by simp)
                                          · rw [if_neg c59] at H
                                            exact absurd H (by simp)
                                        · rw [if_neg c58] at H
                                          exact absurd H (by simp)
                                      · replace c56 := Bool.eq_false_iff.mpr c56
                                        subst c56
                                        have H1 : (if x6_1 < (a0.size : Int) then (if x8_2 < (a1.size : Int) then (if 0 ≤ x6_1 then (if (bt a0 x6_1) = 63 then (if 0 ≤ (wrap64 (x8_2 + 1)) then (if (wrap64 (x8_2 + 1)) < (x5_1.length : Int) then (if 0 ≤ x8_2 then (if x8_2 < (x7_2.length : Int) then (secateurref21_Meets.l1 kj51 a0 a1 x5_1 x6_1 (x7_2.set (x8_2 : Int).toNat (rdOf false x5_1 (wrap64 (x8_2 + 1)))) (wrap64 (x8_2 - 1))) else (none)) else (none)) else (none)) else (none)) else (if 0 ≤ x8_2 then (if (bt a1 x8_2) = 63 then (if 0 ≤ (wrap64 (x8_2 + 1)) then (if (wrap64 (x8_2 + 1)) < (x5_1.length : Int) then (if x8_2 < (x7_2.length : Int) then (secateurref21_Meets.l1 kj51 a0 a1 x5_1 x6_1 (x7_2.set (x8_2 : Int).toNat (rdOf false x5_1 (wrap64 (x8_2 + 1)))) (wrap64 (x8_2 - 1))) else (none)) else (none)) else (none)) else (if (bt a0 x6_1) = (bt a1 x8_2) then (if 0 ≤ (wrap64 (x8_2 + 1)) then (if (wrap64 (x8_2 + 1)) < (x5_1.length : Int) then (if x8_2 < (x7_2.length : Int) then (secateurref21_Meets.l1 kj51 a0 a1 x5_1 x6_1 (x7_2.set (x8_2 : Int).toNat (rdOf false x5_1 (wrap64 (x8_2 + 1)))) (wrap64 (x8_2 - 1))) else (none)) else (none)) else (none)) else (secateurref21_Meets.l1 kj51 a0 a1 x5_1 x6_1 x7_2 (wrap64 (x8_2 - 1))))) else (none))) else (none)) else (secateurref21_Meets.l1 kj51 a0 a1 x5_1 x6_1 x7_2 (wrap64 (x8_2 - 1)))) else (secateurref21_Meets.l1 kj51 a0 a1 x5_1 x6_1 x7_2 (wrap64 (x8_2 - 1)))) = some r := by rw [if_neg (show ¬ (false = true) by decide)] at H; exact H
                                        clear H
                                        have H := H1
                                        clear H1
                                        by_cases c83 : x6_1 < (a0.size : Int)
                                        · rw [if_pos c83] at H
                                          have c83b0 : decide (x6_1 < (a0.size : Int)) = true := decide_eq_true c83
                                          clear c83
                                          by_cases c84 : x8_2 < (a1.size : Int)
                                          · rw [if_pos c84] at H
                                            have c84b0 : decide (x8_2 < (a1.size : Int)) = true := decide_eq_true c84
                                            clear c84
                                            by_cases c85 : 0 ≤ x6_1
                                            · rw [if_pos c85] at H
                                              have c85b0 : decide (0 ≤ x6_1) = true := decide_eq_true c85
                                              clear c85
                                              by_cases c87 : (bt a0 x6_1) = 63
                                              · rw [if_pos c87] at H
                                                have c87b0 : ((bt a0 x6_1) == 63) = true := beq_iff_eq.mpr c87
                                                have c87b1 : ((bt a0 x6_1) != 63) = false := bne_eq_false_iff_eq.mpr c87
                                                clear c87
                                                obtain ⟨ji88, hji88⟩ : ∃ j_ : Int, (wrap64 (x8_2 + 1)) = j_ := ⟨_, rfl⟩
                                                replace H : (if 0 ≤ (ji88) then (if (ji88) < (x5_1.length : Int) then (if 0 ≤ x8_2 then (if x8_2 < (x7_2.length : Int) then (secateurref21_Meets.l1 kj51 a0 a1 x5_1 x6_1 (x7_2.set (x8_2 : Int).toNat (rdOf false x5_1 (ji88))) (wrap64 (x8_2 - 1))) else (none)) else (none)) else (none)) else (none)) = some r := by first | (rw [hji88] at H; exact H) | (simp only [hji88] at H ⊢; exact H)
                                                have hji88w : (IntKind.i64.wrap (x8_2 + 1)) = ji88 := (i64_w _).trans hji88
                                                by_cases c89 : 0 ≤ (ji88)
                                                · rw [if_pos c89] at H
                                                  have c89b0 : decide (0 ≤ (ji88)) = true := decide_eq_true c89
                                                  clear c89
                                                  by_cases c90 : (ji88) < (x5_1.length : Int)
                                                  · rw [if_pos c90] at H
                                                    have c90b0 : decide ((ji88) < (x5_1.length : Int)) = true := decide_eq_true c90
                                                    clear c90
                                                    by_cases c91 : 0 ≤ x8_2
                                                    · rw [if_pos c91] at H
                                                      have c91b0 : decide (0 ≤ x8_2) = true := decide_eq_true c91
                                                      clear c91
                                                      by_cases c92 : x8_2 < (x7_2.length : Int)
                                                      · rw [if_pos c92] at H
                                                        have c92b0 : decide (x8_2 < (x7_2.length : Int)) = true := decide_eq_true c92
                                                        clear c92
                                                        obtain ⟨y234, hy234⟩ : ∃ y_ : List Bool, y_ = (x7_2.set (x8_2 : Int).toNat (rdOf false x5_1 (ji88))) := ⟨_, rfl⟩
                                                        replace H : (secateurref21_Meets.l1 kj51 a0 a1 x5_1 x6_1 y234 (wrap64 (x8_2 - 1))) = some r := by first | (rw [hy234]; with_reducible exact H) | (have H2_ := (Option.bind_some _ _).symm.trans H; rw [hy234]; with_reducible exact H2_) | (have H2_ := (Option.bind_some _ _).symm.trans H; with_reducible exact H2_) | with_reducible exact H | (rw [hy234]; exact H) | exact H
                                                        have Ny234 := Aside0.mk hy234
                                                        clear hy234
                                                        have H' := Aside0.mk H
                                                        clear H
                                                        have p86 : 0 ≤ (x6_1 : Int) := of_decide_eq_true (by first | (with_reducible assumption) | assumption)
                                                        have q86 : x6_1 < (a0.size : Int) := of_decide_eq_true (by first | (with_reducible assumption) | assumption)
                                                        have hx86 := bt_at a0 x6_1
                                                        replace p86 := eq_true p86
                                                        replace q86 := eq_true q86
                                                        obtain ⟨Ao94, co94, eo94⟩ := Kd.R_slice HO_5.out
                                                        subst eo94
                                                        have p233 : 0 ≤ ((ji88) : Int) := of_decide_eq_true (by first | (with_reducible assumption) | assumption)
                                                        have q233 : (ji88) < (x5_1.length : Int) := of_decide_eq_true (by first | (with_reducible assumption) | assumption)
                                                        obtain ⟨ad233, e233, hx233_0⟩ := Kd.at_bool (Kd.R_reads' HO_5.out).2.2 (ji88) p233 q233
                                                        cases e233
                                                        replace p233 := eq_true p233
                                                        replace q233 := eq_true q233
                                                        have p93 : 0 ≤ (x8_2 : Int) := of_decide_eq_true (by first | (with_reducible assumption) | assumption)
                                                        have q93 : (x8_2 : Int) < ((x7_2.length : Int) : Int) := of_decide_eq_true (by first | (with_reducible assumption) | assumption)
                                                        obtain ⟨go93, co93, eo93, gb93, gl93, cl93, HG93⟩ := Kd.R_form HO_7.out (by omega)
                                                        (first | cases eo93 | (injection eo93 with ea_ en_ ec_; (first | subst ea_ | (injection ea_ with ea_; subst ea_)); subst ec_; clear en_))
                                                        have GB93 := Aside0.mk gb93
                                                        have GG93 := Aside0.mk HG93
                                                        clear gb93 gl93 HG93
                                                        obtain ⟨hx93_0, hf93_0⟩ := Kd.R_celln false HO_7.out (x8_2 : Int) p93 q93
                                                        replace p93 := eq_true p93
                                                        replace q93 := eq_true q93
                                                        have HP95 := Kd.R_putg HO_7.out (x8_2 : Int) (rdOf false x5_1 (ji88))
                                                        go_wp2_with (first | ((with_reducible refine gate_store (t := 4) (p := 144) rfl ?_); (try (rw [drewN_self wc]; generalize hq_ : World.drewN wc _ = wc; have n0_ := Aside0.mk (Kd.R_at hq_ HO_5.out); have n1_ := Aside0.mk (Kd.R_at hq_ HO_7.out); have n2_ := Aside0.mk (below_at hq_ HB.out); clear hq_ HO_5 HO_7 HB; have HO_5 := n0_; have HO_7 := n1_; have HB := n2_; clear n0_ n1_ n2_; (try (have HP95 := Kd.R_putg HO_7.out (x8_2 : Int) (rdOf false x5_1 (ji88)))))); refine store_event (t := 4) (p := 144) (v := ?vo_w96) (w1 := (wc.setCell ⟨go93, (x8_2 : Int).toNat, none⟩ (.bool (rdOf false x5_1 (ji88))))) ?hg ?ho ?hn ?hr ?_; (case ho => rfl); (case hg => rfl); (case hn => rfl); (case hr => first | (go_simp; done) | (go_simp; rfl)); intro w96 hw; have hg : wc.grownBy w96 (some go93) := (by rw [hw]; exact HP95.2); have hp_ : Kd.R Kd.bool 4 w96 w.heap.size (fun k_ => some k_ ≠ (.slice (some ad233) x5_1.length co94 : Value).ownBlock) (.slice (some ⟨go93, 0, none⟩) x7_2.length co93) y234 := (by rw [hw, Ny234.out]; exact HP95.1); clear HP95; have n0_ := Aside0.mk (Kd.R_after (v := (.slice (some ⟨go93, 0, none⟩) x7_2.length co93)) (v1 := (.slice (some ⟨go93, 0, none⟩) x7_2.length co93)) (ok := (fun _ => True)) (by (with_reducible repeat (first | apply Kd.R_alloc | apply Kd.R_drewN | apply Kd.R_drew)); exact Kd.R_mono HO_5.out (fun _ hk => ⟨trivial, hk⟩)) hg (.inl rfl)); have n1_ := Aside0.mk (hp_); have n2_ := Aside0.mk ((by rw [hw]; exact below_set (HB.out) GB93.out : Below w.heap.size w w96)); clear HO_5; clear HO_7; clear HB; have HO_5 := n0_; have HO_7 := n1_; have HB := n2_; clear n0_ n1_ n2_; clear hg hw hp_))
                                                        repeat (go_quiet (first | ((with_reducible refine gate_store (t := 4) (p := 144) rfl ?_); (try (rw [drewN_self wc]; generalize hq_ : World.drewN wc _ = wc; have n0_ := Aside0.mk (Kd.R_at hq_ HO_5.out); have n1_ := Aside0.mk (Kd.R_at hq_ HO_7.out); have n2_ := Aside0.mk (below_at hq_ HB.out); clear hq_ HO_5 HO_7 HB; have HO_5 := n0_; have HO_7 := n1_; have HB := n2_; clear n0_ n1_ n2_; (try (have HP95 := Kd.R_putg HO_7.out (x8_2 : Int) (rdOf false x5_1 (ji88)))))); refine store_event (t := 4) (p := 144) (v := ?vo_w96) (w1 := (wc.setCell ⟨go93, (x8_2 : Int).toNat, none⟩ (.bool (rdOf false x5_1 (ji88))))) ?hg ?ho ?hn ?hr ?_; (case ho => rfl); (case hg => rfl); (case hn => rfl); (case hr => first | (go_simp; done) | (go_simp; rfl)); intro w96 hw; have hg : wc.grownBy w96 (some go93) := (by rw [hw]; exact HP95.2); have hp_ : Kd.R Kd.bool 4 w96 w.heap.size (fun k_ => some k_ ≠ (.slice (some ad233) x5_1.length co94 : Value).ownBlock) (.slice (some ⟨go93, 0, none⟩) x7_2.length co93) y234 := (by rw [hw, Ny234.out]; exact HP95.1); clear HP95; have n0_ := Aside0.mk (Kd.R_after (v := (.slice (some ⟨go93, 0, none⟩) x7_2.length co93)) (v1 := (.slice (some ⟨go93, 0, none⟩) x7_2.length co93)) (ok := (fun _ => True)) (by (with_reducible repeat (first | apply Kd.R_alloc | apply Kd.R_drewN | apply Kd.R_drew)); exact Kd.R_mono HO_5.out (fun _ hk => ⟨trivial, hk⟩)) hg (.inl rfl)); have n1_ := Aside0.mk (hp_); have n2_ := Aside0.mk ((by rw [hw]; exact below_set (HB.out) GB93.out : Below w.heap.size w w96)); clear HO_5; clear HO_7; clear HB; have HO_5 := n0_; have HO_7 := n1_; have HB := n2_; clear n0_ n1_ n2_; clear hg hw hp_)); try go_wp2_with (first | ((with_reducible refine gate_store (t := 4) (p := 144) rfl ?_); (try (rw [drewN_self wc]; generalize hq_ : World.drewN wc _ = wc; have n0_ := Aside0.mk (Kd.R_at hq_ HO_5.out); have n1_ := Aside0.mk (Kd.R_at hq_ HO_7.out); have n2_ := Aside0.mk (below_at hq_ HB.out); clear hq_ HO_5 HO_7 HB; have HO_5 := n0_; have HO_7 := n1_; have HB := n2_; clear n0_ n1_ n2_; (try (have HP95 := Kd.R_putg HO_7.out (x8_2 : Int) (rdOf false x5_1 (ji88)))))); refine store_event (t := 4) (p := 144) (v := ?vo_w96) (w1 := (wc.setCell ⟨go93, (x8_2 : Int).toNat, none⟩ (.bool (rdOf false x5_1 (ji88))))) ?hg ?ho ?hn ?hr ?_; (case ho => rfl); (case hg => rfl); (case hn => rfl); (case hr => first | (go_simp; done) | (go_simp; rfl)); intro w96 hw; have hg : wc.grownBy w96 (some go93) := (by rw [hw]; exact HP95.2); have hp_ : Kd.R Kd.bool 4 w96 w.heap.size (fun k_ => some k_ ≠ (.slice (some ad233) x5_1.length co94 : Value).ownBlock) (.slice (some ⟨go93, 0, none⟩) x7_2.length co93) y234 := (by rw [hw, Ny234.out]; exact HP95.1); clear HP95; have n0_ := Aside0.mk (Kd.R_after (v := (.slice (some ⟨go93, 0, none⟩) x7_2.length co93)) (v1 := (.slice (some ⟨go93, 0, none⟩) x7_2.length co93)) (ok := (fun _ => True)) (by (with_reducible repeat (first | apply Kd.R_alloc | apply Kd.R_drewN | apply Kd.R_drew)); exact Kd.R_mono HO_5.out (fun _ hk => ⟨trivial, hk⟩)) hg (.inl rfl)); have n1_ := Aside0.mk (hp_); have n2_ := Aside0.mk ((by rw [hw]; exact below_set (HB.out) GB93.out : Below w.heap.size w w96)); clear HO_5; clear HO_7; clear HB; have HO_5 := n0_; have HO_7 := n1_; have HB := n2_; clear n0_ n1_ n2_; clear hg hw hp_)))
                                                        try (generalize hq_ : World.drewN wc nq = wc; have n0_ := Aside0.mk (Kd.R_at hq_ HO_5.out); have n1_ := Aside0.mk (Kd.R_at hq_ HO_7.out); have n2_ := Aside0.mk (below_at hq_ HB.out); clear hq_ HO_5 HO_7 HB; have HO_5 := n0_; have HO_7 := n1_; have HB := n2_; clear n0_ n1_ n2_; (try (have HP95 := Kd.R_putg HO_7.out (x8_2 : Int) (rdOf false x5_1 (ji88)))); generalize hw0_ : (wc.setCell ⟨go93, (x8_2 : Int).toNat, none⟩ (.bool (rdOf false x5_1 (ji88)))) = w96; have hw := hw0_.symm; clear hw0_; have hg : wc.grownBy w96 (some go93) := (by rw [hw]; exact HP95.2); have hp_ : Kd.R Kd.bool 4 w96 w.heap.size (fun k_ => some k_ ≠ (.slice (some ad233) x5_1.length co94 : Value).ownBlock) (.slice (some ⟨go93, 0, none⟩) x7_2.length co93) y234 := (by rw [hw, Ny234.out]; exact HP95.1); clear HP95; have n0_ := Aside0.mk (Kd.R_after (v := (.slice (some ⟨go93, 0, none⟩) x7_2.length co93)) (v1 := (.slice (some ⟨go93, 0, none⟩) x7_2.length co93)) (ok := (fun _ => True)) (by (with_reducible repeat (first | apply Kd.R_alloc | apply Kd.R_drewN | apply Kd.R_drew)); exact Kd.R_mono HO_5.out (fun _ hk => ⟨trivial, hk⟩)) hg (.inl rfl)); have n1_ := Aside0.mk (hp_); have n2_ := Aside0.mk ((by rw [hw]; exact below_set (HB.out) GB93.out : Below w.heap.size w w96)); clear HO_5; clear HO_7; clear HB; have HO_5 := n0_; have HO_7 := n1_; have HB := n2_; clear n0_ n1_ n2_; clear hg hw hp_)
                                                        go_roundg kj51
                                                        case measure => have := HK1.out; have := HK2.out; have := HJ14.out; have := HJ22.out; have := HJ51.out; omega
                                                        case rel => exact ⟨(y234), (wrap64 (x8_2 - 1)), (by first | rfl | (simp; done) | (simp [*]; done)), H', ⟨by have := HK1.out; have := HK2.out; have := HJ14.out; have := HJ22.out; have := HJ51.out; omega⟩, ⟨by (with_reducible repeat (first | apply Kd.R_alloc | apply Kd.R_drewN | apply Kd.R_drew)); exact Kd.R_mono HO_5.out (fun _ hk => hk.2)⟩, ⟨by (with_reducible repeat (first | apply Kd.R_alloc | apply Kd.R_drewN | apply Kd.R_drew)); exact HO_7.out⟩, ⟨by repeat (first | (with_reducible first | exact HB.out | apply below_alloc | apply pw_below_drewN | apply below_drew1) | exact HB.out)⟩⟩
                                                      · rw [if_neg c92] at H
                                                        exact absurd H (by simp)
                                                    · rw [if_neg c91] at H
                                                      exact absurd H (by simp)
                                                  · rw [if_neg c90] at H
                                                    exact absurd H (by simp)
                                                · rw [if_neg c89] at H
                                                  exact absurd H (by simp)
                                              · rw [if_neg c87] at H
                                                have c87b0 : ((bt a0 x6_1) == 63) = false := beq_eq_false_iff_ne.mpr c87
                                                have c87b1 : ((bt a0 x6_1) != 63) = true := bne_iff_ne.mpr c87
                                                by_cases c97 : 0 ≤ x8_2
                                                · rw [if_pos c97] at H
                                                  have c97b0 : decide (0 ≤ x8_2) = true := decide_eq_true c97
                                                  clear c97
                                                  by_cases c99 : (bt a1 x8_2) = 63
                                                  · rw [if_pos c99] at H
                                                    have c99b0 : ((bt a1 x8_2) == 63) = true := beq_iff_eq.mpr c99
                                                    have c99b1 : ((bt a1 x8_2) != 63) = false := bne_eq_false_iff_eq.mpr c99
                                                    clear c99
                                                    obtain ⟨ji100, hji100⟩ : ∃ j_ : Int, (wrap64 (x8_2 + 1)) = j_ := ⟨_, rfl⟩
                                                    replace H : (if 0 ≤ (ji100) then (if (ji100) < (x5_1.length : Int) then (if x8_2 < (x7_2.length : Int) then (secateurref21_Meets.l1 kj51 a0 a1 x5_1 x6_1 (x7_2.set (x8_2 : Int).toNat (rdOf false x5_1 (ji100))) (wrap64 (x8_2 - 1))) else (none)) else (none)) else (none)) = some r := by first | (rw [hji100] at H; exact H) | (simp only [hji100] at H ⊢; exact H)
                                                    have hji100w : (IntKind.i64.wrap (x8_2 + 1)) = ji100 := (i64_w _).trans hji100
                                                    by_cases c101 : 0 ≤ (ji100)
                                                    · rw [if_pos c101] at H
                                                      have c101b0 : decide (0 ≤ (ji100)) = true := decide_eq_true c101
                                                      clear c101
                                                      by_cases c102 : (ji100) < (x5_1.length : Int)
                                                      · rw [if_pos c102] at H
                                                        have c102b0 : decide ((ji100) < (x5_1.length : Int)) = true := decide_eq_true c102
                                                        clear c102
                                                        by_cases c103 : x8_2 < (x7_2.length : Int)
                                                        · rw [if_pos c103] at H
                                                          have c103b0 : decide (x8_2 < (x7_2.length : Int)) = true := decide_eq_true c103
                                                          clear c103
                                                          obtain ⟨y236, hy236⟩ : ∃ y_ : List Bool, y_ = (x7_2.set (x8_2 : Int).toNat (rdOf false x5_1 (ji100))) := ⟨_, rfl⟩
                                                          replace H : (secateurref21_Meets.l1 kj51 a0 a1 x5_1 x6_1 y236 (wrap64 (x8_2 - 1))) = some r := by first | (rw [hy236]; with_reducible exact H) | (have H2_ := (Option.bind_some _ _).symm.trans H; rw [hy236]; with_reducible exact H2_) | (have H2_ := (Option.bind_some _ _).symm.trans H; with_reducible exact H2_) | with_reducible exact H | (rw [hy236]; exact H) | exact H
                                                          have Ny236 := Aside0.mk hy236
                                                          clear hy236
                                                          have H' := Aside0.mk H
                                                          clear H
                                                          have p86 : 0 ≤ (x6_1 : Int) := of_decide_eq_true (by first | (with_reducible assumption) | assumption)
                                                          have q86 : x6_1 < (a0.size : Int) := of_decide_eq_true (by first | (with_reducible assumption) | assumption)
                                                          have hx86 := bt_at a0 x6_1
                                                          replace p86 := eq_true p86
                                                          replace q86 := eq_true q86
                                                          have p98 : 0 ≤ (x8_2 : Int) := of_decide_eq_true (by first | (with_reducible assumption) | assumption)
                                                          have q98 : x8_2 < (a1.size : Int) := of_decide_eq_true (by first | (with_reducible assumption) | assumption)
                                                          have hx98 := bt_at a1 x8_2
                                                          replace p98 := eq_true p98
                                                          replace q98 := eq_true q98
                                                          obtain ⟨Ao105, co105, eo105⟩ := Kd.R_slice HO_5.out
                                                          subst eo105
                                                          have p235 : 0 ≤ ((ji100) : Int) := of_decide_eq_true (by first | (with_reducible assumption) | assumption)
                                                          have q235 : (ji100) < (x5_1.length : Int) := of_decide_eq_true (by first | (with_reducible assumption) | assumption)
                                                          obtain ⟨ad235, e235, hx235_0⟩ := Kd.at_bool (Kd.R_reads' HO_5.out).2.2 (ji100) p235 q235
                                                          cases e235
                                                          replace p235 := eq_true p235
                                                          replace q235 := eq_true q235
                                                          have p104 : 0 ≤ (x8_2 : Int) := of_decide_eq_true (by first | (with_reducible assumption) | assumption)
                                                          have q104 : (x8_2 : Int) < ((x7_2.length : Int) : Int) := of_decide_eq_true (by first | (with_reducible assumption) | assumption)
                                                          obtain ⟨go104, co104, eo104, gb104, gl104, cl104, HG104⟩ := Kd.R_form HO_7.out (by omega)
                                                          (first | cases eo104 | (injection eo104 with ea_ en_ ec_; (first | subst ea_ | (injection ea_ with ea_; subst ea_)); subst ec_; clear en_))
                                                          have GB104 := Aside0.mk gb104
                                                          have GG104 := Aside0.mk HG104
                                                          clear gb104 gl104 HG104
                                                          obtain ⟨hx104_0, hf104_0⟩ := Kd.R_celln false HO_7.out (x8_2 : Int) p104 q104
                                                          replace p104 := eq_true p104
                                                          replace q104 := eq_true q104
                                                          have HP106 := Kd.R_putg HO_7.out (x8_2 : Int) (rdOf false x5_1 (ji100))
                                                          go_wp2_with (first | ((with_reducible refine gate_store (t := 4) (p := 144) rfl ?_); (try (rw [drewN_self wc]; generalize hq_ : World.drewN wc _ = wc; have n0_ := Aside0.mk (Kd.R_at hq_ HO_5.out); have n1_ := Aside0.mk (Kd.R_at hq_ HO_7.out); have n2_ := Aside0.mk (below_at hq_ HB.out); clear hq_ HO_5 HO_7 HB; have HO_5 := n0_; have HO_7 := n1_; have HB := n2_; clear n0_ n1_ n2_; (try (have HP106 := Kd.R_putg HO_7.out (x8_2 : Int) (rdOf false x5_1 (ji100)))))); refine store_event (t := 4) (p := 144) (v := ?vo_w107) (w1 := (wc.setCell ⟨go104, (x8_2 : Int).toNat, none⟩ (.bool (rdOf false x5_1 (ji100))))) ?hg ?ho ?hn ?hr ?_; (case ho => rfl); (case hg => rfl); (case hn => rfl); (case hr => first | (go_simp; done) | (go_simp; rfl)); intro w107 hw; have hg : wc.grownBy w107 (some go104) := (by rw [hw]; exact HP106.2); have hp_ : Kd.R Kd.bool 4 w107 w.heap.size (fun k_ => some k_ ≠ (.slice (some ad235) x5_1.length co105 : Value).ownBlock) (.slice (some ⟨go104, 0, none⟩) x7_2.length co104) y236 := (by rw [hw, Ny236.out]; exact HP106.1); clear HP106; have n0_ := Aside0.mk (Kd.R_after (v := (.slice (some ⟨go104, 0, none⟩) x7_2.length co104)) (v1 := (.slice (some ⟨go104, 0, none⟩) x7_2.length co104)) (ok := (fun _ => True)) (by (with_reducible repeat (first | apply Kd.R_alloc | apply Kd.R_drewN | apply Kd.R_drew)); exact Kd.R_mono HO_5.out (fun _ hk => ⟨trivial, hk⟩)) hg (.inl rfl)); have n1_ := Aside0.mk (hp_); have n2_ := Aside0.mk ((by rw [hw]; exact below_set (HB.out) GB104.out : Below w.heap.size w w107)); clear HO_5; clear HO_7; clear HB; have HO_5 := n0_; have HO_7 := n1_; have HB := n2_; clear n0_ n1_ n2_; clear hg hw hp_))
                                                          repeat (go_quiet (first | ((with_reducible refine gate_store (t := 4) (p := 144) rfl ?_); (try (rw [drewN_self wc]; generalize hq_ : World.drewN wc _ = wc; have n0_ := Aside0.mk (Kd.R_at hq_ HO_5.out); have n1_ := Aside0.mk (Kd.R_at hq_ HO_7.out); have n2_ := Aside0.mk (below_at hq_ HB.out); clear hq_ HO_5 HO_7 HB; have HO_5 := n0_; have HO_7 := n1_; have HB := n2_; clear n0_ n1_ n2_; (try (have HP106 := Kd.R_putg HO_7.out (x8_2 : Int) (rdOf false x5_1 (ji100)))))); refine store_event (t := 4) (p := 144) (v := ?vo_w107) (w1 := (wc.setCell ⟨go104, (x8_2 : Int).toNat, none⟩ (.bool (rdOf false x5_1 (ji100))))) ?hg ?ho ?hn ?hr ?_; (case ho => rfl); (case hg => rfl); (case hn => rfl); (case hr => first | (go_simp; done) | (go_simp; rfl)); intro w107 hw; have hg : wc.grownBy w107 (some go104) := (by rw [hw]; exact HP106.2); have hp_ : Kd.R Kd.bool 4 w107 w.heap.size (fun k_ => some k_ ≠ (.slice (some ad235) x5_1.length co105 : Value).ownBlock) (.slice (some ⟨go104, 0, none⟩) x7_2.length co104) y236 := (by rw [hw, Ny236.out]; exact HP106.1); clear HP106; have n0_ := Aside0.mk (Kd.R_after (v := (.slice (some ⟨go104, 0, none⟩) x7_2.length co104)) (v1 := (.slice (some ⟨go104, 0, none⟩) x7_2.length co104)) (ok := (fun _ => True)) (by (with_reducible repeat (first | apply Kd.R_alloc | apply Kd.R_drewN | apply Kd.R_drew)); exact Kd.R_mono HO_5.out (fun _ hk => ⟨trivial, hk⟩)) hg (.inl rfl)); have n1_ := Aside0.mk (hp_); have n2_ := Aside0.mk ((by rw [hw]; exact below_set (HB.out) GB104.out : Below w.heap.size w w107)); clear HO_5; clear HO_7; clear HB; have HO_5 := n0_; have HO_7 := n1_; have HB := n2_; clear n0_ n1_ n2_; clear hg hw hp_)); try go_wp2_with (first | ((with_reducible refine gate_store (t := 4) (p := 144) rfl ?_); (try (rw [drewN_self wc]; generalize hq_ : World.drewN wc _ = wc; have n0_ := Aside0.mk (Kd.R_at hq_ HO_5.out); have n1_ := Aside0.mk (Kd.R_at hq_ HO_7.out); have n2_ := Aside0.mk (below_at hq_ HB.out); clear hq_ HO_5 HO_7 HB; have HO_5 := n0_; have HO_7 := n1_; have HB := n2_; clear n0_ n1_ n2_; (try (have HP106 := Kd.R_putg HO_7.out (x8_2 : Int) (rdOf false x5_1 (ji100)))))); refine store_event (t := 4) (p := 144) (v := ?vo_w107) (w1 := (wc.setCell ⟨go104, (x8_2 : Int).toNat, none⟩ (.bool (rdOf false x5_1 (ji100))))) ?hg ?ho ?hn ?hr ?_; (case ho => rfl); (case hg => rfl); (case hn => rfl); (case hr => first | (go_simp; done) | (go_simp; rfl)); intro w107 hw; have hg : wc.grownBy w107 (some go104) := (by rw [hw]; exact HP106.2); have hp_ : Kd.R Kd.bool 4 w107 w.heap.size (fun k_ => some k_ ≠ (.slice (some ad235) x5_1.length co105 : Value).ownBlock) (.slice (some ⟨go104, 0, none⟩) x7_2.length co104) y236 := (by rw [hw, Ny236.out]; exact HP106.1); clear HP106; have n0_ := Aside0.mk (Kd.R_after (v := (.slice (some ⟨go104, 0, none⟩) x7_2.length co104)) (v1 := (.slice (some ⟨go104, 0, none⟩) x7_2.length co104)) (ok := (fun _ => True)) (by (with_reducible repeat (first | apply Kd.R_alloc | apply Kd.R_drewN | apply Kd.R_drew)); exact Kd.R_mono HO_5.out (fun _ hk => ⟨trivial, hk⟩)) hg (.inl rfl)); have n1_ := Aside0.mk (hp_); have n2_ := Aside0.mk ((by rw [hw]; exact below_set (HB.out) GB104.out : Below w.heap.size w w107)); clear HO_5; clear HO_7; clear HB; have HO_5 := n0_; have HO_7 := n1_; have HB := n2_; clear n0_ n1_ n2_; clear hg hw hp_)))
                                                          try (generalize hq_ : World.drewN wc nq = wc; have n0_ := Aside0.mk (Kd.R_at hq_ HO_5.out); have n1_ := Aside0.mk (Kd.R_at hq_ HO_7.out); have n2_ := Aside0.mk (below_at hq_ HB.out); clear hq_ HO_5 HO_7 HB; have HO_5 := n0_; have HO_7 := n1_; have HB := n2_; clear n0_ n1_ n2_; (try (have HP106 := Kd.R_putg HO_7.out (x8_2 : Int) (rdOf false x5_1 (ji100)))); generalize hw0_ : (wc.setCell ⟨go104, (x8_2 : Int).toNat, none⟩ (.bool (rdOf false x5_1 (ji100)))) = w107; have hw := hw0_.symm; clear hw0_; have hg : wc.grownBy w107 (some go104) := (by rw [hw]; exact HP106.2); have hp_ : Kd.R Kd.bool 4 w107 w.heap.size (fun k_ => some k_ ≠ (.slice (some ad235) x5_1.length co105 : Value).ownBlock) (.slice (some ⟨go104, 0, none⟩) x7_2.length co104) y236 := (by rw [hw, Ny236.out]; exact HP106.1); clear HP106; have n0_ := Aside0.mk (Kd.R_after (v := (.slice (some ⟨go104, 0, none⟩) x7_2.length co104)) (v1 := (.slice (some ⟨go104, 0, none⟩) x7_2.length co104)) (ok := (fun _ => True)) (by (with_reducible repeat (first | apply Kd.R_alloc | apply Kd.R_drewN | apply Kd.R_drew)); exact Kd.R_mono HO_5.out (fun _ hk => ⟨trivial, hk⟩)) hg (.inl rfl)); have n1_ := Aside0.mk (hp_); have n2_ := Aside0.mk ((by rw [hw]; exact below_set (HB.out) GB104.out : Below w.heap.size w w107)); clear HO_5; clear HO_7; clear HB; have HO_5 := n0_; have HO_7 := n1_; have HB := n2_; clear n0_ n1_ n2_; clear hg hw hp_)
                                                          go_roundg kj51
                                                          case measure => have := HK1.out; have := HK2.out; have := HJ14.out; have := HJ22.out; have := HJ51.out; omega
                                                          case rel => exact ⟨(y236), (wrap64 (x8_2 - 1)), (by first | rfl | (simp; done) | (simp [*]; done)), H', ⟨by have := HK1.out; have := HK2.out; have := HJ14.out; have := HJ22.out; have := HJ51.out; omega⟩, ⟨by (with_reducible repeat (first | apply Kd.R_alloc | apply Kd.R_drewN | apply Kd.R_drew)); exact Kd.R_mono HO_5.out (fun _ hk => hk.2)⟩, ⟨by (with_reducible repeat (first | apply Kd.R_alloc | apply Kd.R_drewN | apply Kd.R_drew)); exact HO_7.out⟩, ⟨by repeat (first | (with_reducible first | exact HB.out | apply below_alloc | apply pw_below_drewN | apply below_drew1) | exact HB.out)⟩⟩
                                                        · rw [if_neg c103] at H
                                                          exact absurd H (by simp)
                                                      · rw [if_neg c102] at H
                                                        exact absurd H (by simp)
                                                    · rw [if_neg c101] at H
                                                      exact absurd H (by simp)
                                                  · rw [if_neg c99] at H
                                                    have c99b0 : ((bt a1 x8_2) == 63) = false := beq_eq_false_iff_ne.mpr c99
                                                    have c99b1 : ((bt a1 x8_2) != 63) = true := bne_iff_ne.mpr c99
                                                    by_cases c110 : (bt a0 x6_1) = (bt a1 x8_2)
                                                    · rw [if_pos c110] at H
                                                      have c110b0 : ((bt a0 x6_1) == (bt a1 x8_2)) = true := beq_iff_eq.mpr c110
                                                      have c110b1 : ((bt a0 x6_1) != (bt a1 x8_2)) = false := bne_eq_false_iff_eq.mpr c110
                                                      clear c110
                                                      obtain ⟨ji111, hji111⟩ : ∃ j_ : Int, (wrap64 (x8_2 + 1)) = j_ := ⟨_, rfl⟩
                                                      replace H : (if 0 ≤ (ji111) then (if (ji111) < (x5_1.length : Int) then (if x8_2 < (x7_2.length : Int) then (secateurref21_Meets.l1 kj51 a0 a1 x5_1 x6_1 (x7_2.set (x8_2 : Int).toNat (rdOf false x5_1 (ji111))) (wrap64 (x8_2 - 1))) else (none)) else (none)) else (none)) = some r := by first | (rw [hji111] at H; exact H) | (simp only [hji111] at H ⊢; exact H)
                                                      have hji111w : (IntKind.i64.wrap (x8_2 + 1)) = ji111 := (i64_w _).trans hji111
                                                      by_cases c112 : 0 ≤ (ji111)
                                                      · rw [if_pos c112] at H
                                                        have c112b0 : decide (0 ≤ (ji111)) = true := decide_eq_true c112
                                                        clear c112
                                                        by_cases c113 : (ji111) < (x5_1.length : Int)
                                                        · rw [if_pos c113] at H
                                                          have c113b0 : decide ((ji111) < (x5_1.length : Int)) = true := decide_eq_true c113
                                                          clear c113
                                                          by_cases c114 : x8_2 < (x7_2.length : Int)
                                                          · rw [if_pos c114] at H
                                                            have c114b0 : decide (x8_2 < (x7_2.length : Int)) = true := decide_eq_true c114
                                                            clear c114
                                                            obtain ⟨y238, hy238⟩ : ∃ y_ : List Bool, y_ = (x7_2.set (x8_2 : Int).toNat (rdOf false x5_1 (ji111))) := ⟨_, rfl⟩
                                                            replace H : (secateurref21_Meets.l1 kj51 a0 a1 x5_1 x6_1 y238 (wrap64 (x8_2 - 1))) = some r := by first | (rw [hy238]; with_reducible exact H) | (have H2_ := (Option.bind_some _ _).symm.trans H; rw [hy238]; with_reducible exact H2_) | (have H2_ := (Option.bind_some _ _).symm.trans H; with_reducible exact H2_) | with_reducible exact H | (rw [hy238]; exact H) | exact H
                                                            have Ny238 := Aside0.mk hy238
                                                            clear hy238
                                                            have H' := Aside0.mk H
                                                            clear H
                                                            have p86 : 0 ≤ (x6_1 : Int) := of_decide_eq_true (by first | (with_reducible assumption) | assumption)
                                                            have q86 : x6_1 < (a0.size : Int) := of_decide_eq_true (by first | (with_reducible assumption) | assumption)
                                                            have hx86 := bt_at a0 x6_1
                                                            replace p86 := eq_true p86
                                                            replace q86 := eq_true q86
                                                            have p98 : 0 ≤ (x8_2 : Int) := of_decide_eq_true (by first | (with_reducible assumption) | assumption)
                                                            have q98 : x8_2 < (a1.size : Int) := of_decide_eq_true (by first | (with_reducible assumption) | assumption)
                                                            have hx98 := bt_at a1 x8_2
                                                            replace p98 := eq_true p98
                                                            replace q98 := eq_true q98
                                                            have p108 : 0 ≤ (x6_1 : Int) := of_decide_eq_true (by first | (with_reducible assumption) | assumption)
                                                            have q108 : x6_1 < (a0.size : Int) := of_decide_eq_true (by first | (with_reducible assumption) | assumption)
                                                            have hx108 := bt_at a0 x6_1
                                                            replace p108 := eq_true p108
                                                            replace q108 := eq_true q108
                                                            have p109 : 0 ≤ (x8_2 : Int) := of_decide_eq_true (by first | (with_reducible assumption) | assumption)
                                                            have q109 : x8_2 < (a1.size : Int) := of_decide_eq_true (by first | (with_reducible assumption) | assumption)
                                                            have hx109 := bt_at a1 x8_2
                                                            replace p109 := eq_true p109
                                                            replace q109 := eq_true q109
                                                            obtain ⟨Ao116, co116, eo116⟩ := Kd.R_slice HO_5.out
                                                            subst eo116
                                                            have p237 : 0 ≤ ((ji111) : Int) := of_decide_eq_true (by first | (with_reducible assumption) | assumption)
                                                            have q237 : (ji111) < (x5_1.length : Int) := of_decide_eq_true (by first | (with_reducible assumption) | assumption)
                                                            obtain ⟨ad237, e237, hx237_0⟩ := Kd.at_bool (Kd.R_reads' HO_5.out).2.2 (ji111) p237 q237
                                                            cases e237
                                                            replace p237 := eq_true p237
                                                            replace q237 := eq_true q237
                                                            have p115 : 0 ≤ (x8_2 : Int) := of_decide_eq_true (by first | (with_reducible assumption) | assumption)
                                                            have q115 : (x8_2 : Int) < ((x7_2.length : Int) : Int) := of_decide_eq_true (by first | (with_reducible assumption) | assumption)
                                                            obtain ⟨go115, co115, eo115, gb115, gl115, cl115, HG115⟩ := Kd.R_form HO_7.out (by omega)
                                                            (first | cases eo115 | (injection eo115 with ea_ en_ ec_; (first | subst ea_ | (injection ea_ with ea_; subst ea_)); subst ec_; clear en_))
                                                            have GB115 := Aside0.mk gb115
                                                            have GG115 := Aside0.mk HG115
                                                            clear gb115 gl115 HG115
                                                            obtain ⟨hx115_0, hf115_0⟩ := Kd.R_celln false HO_7.out (x8_2 : Int) p115 q115
                                                            replace p115 := eq_true p115
                                                            replace q115 := eq_true q115
                                                            have HP117 := Kd.R_putg HO_7.out (x8_2 : Int) (rdOf false x5_1 (ji111))
                                                            go_wp2_with (first | ((with_reducible refine gate_store (t := 4) (p := 144) rfl ?_); (try (rw [drewN_self wc]; generalize hq_ : World.drewN wc _ = wc; have n0_ := Aside0.mk (Kd.R_at hq_ HO_5.out); have n1_ := Aside0.mk (Kd.R_at hq_ HO_7.out); have n2_ := Aside0.mk (below_at hq_ HB.out); clear hq_ HO_5 HO_7 HB; have HO_5 := n0_; have HO_7 := n1_; have HB := n2_; clear n0_ n1_ n2_; (try (have HP117 := Kd.R_putg HO_7.out (x8_2 : Int) (rdOf false x5_1 (ji111)))))); refine store_event (t := 4) (p := 144) (v := ?vo_w118) (w1 := (wc.setCell ⟨go115, (x8_2 : Int).toNat, none⟩ (.bool (rdOf false x5_1 (ji111))))) ?hg ?ho ?hn ?hr ?_; (case ho => rfl); (case hg => rfl); (case hn => rfl); (case hr => first | (go_simp; done) | (go_simp; rfl)); intro w118 hw; have hg : wc.grownBy w118 (some go115) := (by rw [hw]; exact HP117.2); have hp_ : Kd.R Kd.bool 4 w118 w.heap.size (fun k_ => some k_ ≠ (.slice (some ad237) x5_1.length co116 : Value).ownBlock) (.slice (some ⟨go115, 0, none⟩) x7_2.length co115) y238 := (by rw [hw, Ny238.out]; exact HP117.1); clear HP117; have n0_ := Aside0.mk (Kd.R_after (v := (.slice (some ⟨go115, 0, none⟩) x7_2.length co115)) (v1 := (.slice (some ⟨go115, 0, none⟩) x7_2.length co115)) (ok := (fun _ => True)) (by (with_reducible repeat (first | apply Kd.R_alloc | apply Kd.R_drewN | apply Kd.R_drew)); exact Kd.R_mono HO_5.out (fun _ hk => ⟨trivial, hk⟩)) hg (.inl rfl)); have n1_ := Aside0.mk (hp_); have n2_ := Aside0.mk ((by rw [hw]; exact below_set (HB.out) GB115.out : Below w.heap.size w w118)); clear HO_5; clear HO_7; clear HB; have HO_5 := n0_; have HO_7 := n1_; have HB := n2_; clear n0_ n1_ n2_; clear hg hw hp_))
                                                            repeat (go_quiet (first | ((with_reducible refine gate_store (t := 4) (p := 144) rfl ?_); (try (rw [drewN_self wc]; generalize hq_ : World.drewN wc _ = wc; have n0_ := Aside0.mk (Kd.R_at hq_ HO_5.out); have n1_ := Aside0.mk (Kd.R_at hq_ HO_7.out); have n2_ := Aside0.mk (below_at hq_ HB.out); clear hq_ HO_5 HO_7 HB; have HO_5 := n0_; have HO_7 := n1_; have HB := n2_; clear n0_ n1_ n2_; (try (have HP117 := Kd.R_putg HO_7.out (x8_2 : Int) (rdOf false x5_1 (ji111)))))); refine store_event (t := 4) (p := 144) (v := ?vo_w118) (w1 := (wc.setCell ⟨go115, (x8_2 : Int).toNat, none⟩ (.bool (rdOf false x5_1 (ji111))))) ?hg ?ho ?hn ?hr ?_; (case ho => rfl); (case hg => rfl); (case hn => rfl); (case hr => first | (go_simp; done) | (go_simp; rfl)); intro w118 hw; have hg : wc.grownBy w118 (some go115) := (by rw [hw]; exact HP117.2); have hp_ : Kd.R Kd.bool 4 w118 w.heap.size (fun k_ => some k_ ≠ (.slice (some ad237) x5_1.length co116 : Value).ownBlock) (.slice (some ⟨go115, 0, none⟩) x7_2.length co115) y238 := (by rw [hw, Ny238.out]; exact HP117.1); clear HP117; have n0_ := Aside0.mk (Kd.R_after (v := (.slice (some ⟨go115, 0, none⟩) x7_2.length co115)) (v1 := (.slice (some ⟨go115, 0, none⟩) x7_2.length co115)) (ok := (fun _ => True)) (by (with_reducible repeat (first | apply Kd.R_alloc | apply Kd.R_drewN | apply Kd.R_drew)); exact Kd.R_mono HO_5.out (fun _ hk => ⟨trivial, hk⟩)) hg (.inl rfl)); have n1_ := Aside0.mk (hp_); have n2_ := Aside0.mk ((by rw [hw]; exact below_set (HB.out) GB115.out : Below w.heap.size w w118)); clear HO_5; clear HO_7; clear HB; have HO_5 := n0_; have HO_7 := n1_; have HB := n2_; clear n0_ n1_ n2_; clear hg hw hp_)); try go_wp2_with (first | ((with_reducible refine gate_store (t := 4) (p := 144) rfl ?_); (try (rw [drewN_self wc]; generalize hq_ : World.drewN wc _ = wc; have n0_ := Aside0.mk (Kd.R_at hq_ HO_5.out); have n1_ := Aside0.mk (Kd.R_at hq_ HO_7.out); have n2_ := Aside0.mk (below_at hq_ HB.out); clear hq_ HO_5 HO_7 HB; have HO_5 := n0_; have HO_7 := n1_; have HB := n2_; clear n0_ n1_ n2_; (try (have HP117 := Kd.R_putg HO_7.out (x8_2 : Int) (rdOf false x5_1 (ji111)))))); refine store_event (t := 4) (p := 144) (v := ?vo_w118) (w1 := (wc.setCell ⟨go115, (x8_2 : Int).toNat, none⟩ (.bool (rdOf false x5_1 (ji111))))) ?hg ?ho ?hn ?hr ?_; (case ho => rfl); (case hg => rfl); (case hn => rfl); (case hr => first | (go_simp; done) | (go_simp; rfl)); intro w118 hw; have hg : wc.grownBy w118 (some go115) := (by rw [hw]; exact HP117.2); have hp_ : Kd.R Kd.bool 4 w118 w.heap.size (fun k_ => some k_ ≠ (.slice (some ad237) x5_1.length co116 : Value).ownBlock) (.slice (some ⟨go115, 0, none⟩) x7_2.length co115) y238 := (by rw [hw, Ny238.out]; exact HP117.1); clear HP117; have n0_ := Aside0.mk (Kd.R_after (v := (.slice (some ⟨go115, 0, none⟩) x7_2.length co115)) (v1 := (.slice (some ⟨go115, 0, none⟩) x7_2.length co115)) (ok := (fun _ => True)) (by (with_reducible repeat (first | apply Kd.R_alloc | apply Kd.R_drewN | apply Kd.R_drew)); exact Kd.R_mono HO_5.out (fun _ hk => ⟨trivial, hk⟩)) hg (.inl rfl)); have n1_ := Aside0.mk (hp_); have n2_ := Aside0.mk ((by rw [hw]; exact below_set (HB.out) GB115.out : Below w.heap.size w w118)); clear HO_5; clear HO_7; clear HB; have HO_5 := n0_; have HO_7 := n1_; have HB := n2_; clear n0_ n1_ n2_; clear hg hw hp_)))
                                                            try (generalize hq_ : World.drewN wc nq = wc; have n0_ := Aside0.mk (Kd.R_at hq_ HO_5.out); have n1_ := Aside0.mk (Kd.R_at hq_ HO_7.out); have n2_ := Aside0.mk (below_at hq_ HB.out); clear hq_ HO_5 HO_7 HB; have HO_5 := n0_; have HO_7 := n1_; have HB := n2_; clear n0_ n1_ n2_; (try (have HP117 := Kd.R_putg HO_7.out (x8_2 : Int) (rdOf false x5_1 (ji111)))); generalize hw0_ : (wc.setCell ⟨go115, (x8_2 : Int).toNat, none⟩ (.bool (rdOf false x5_1 (ji111)))) = w118; have hw := hw0_.symm; clear hw0_; have hg : wc.grownBy w118 (some go115) := (by rw [hw]; exact HP117.2); have hp_ : Kd.R Kd.bool 4 w118 w.heap.size (fun k_ => some k_ ≠ (.slice (some ad237) x5_1.length co116 : Value).ownBlock) (.slice (some ⟨go115, 0, none⟩) x7_2.length co115) y238 := (by rw [hw, Ny238.out]; exact HP117.1); clear HP117; have n0_ := Aside0.mk (Kd.R_after (v := (.slice (some ⟨go115, 0, none⟩) x7_2.length co115)) (v1 := (.slice (some ⟨go115, 0, none⟩) x7_2.length co115)) (ok := (fun _ => True)) (by (with_reducible repeat (first | apply Kd.R_alloc | apply Kd.R_drewN | apply Kd.R_drew)); exact Kd.R_mono HO_5.out (fun _ hk => ⟨trivial, hk⟩)) hg (.inl rfl)); have n1_ := Aside0.mk (hp_); have n2_ := Aside0.mk ((by rw [hw]; exact below_set (HB.out) GB115.out : Below w.heap.size w w118)); clear HO_5; clear HO_7; clear HB; have HO_5 := n0_; have HO_7 := n1_; have HB := n2_; clear n0_ n1_ n2_; clear hg hw hp_)
                                                            go_roundg kj51
                                                            case measure => have := HK1.out; have := HK2.out; have := HJ14.out; have := HJ22.out; have := HJ51.out; omega
                                                            case rel => exact ⟨(y238), (wrap64 (x8_2 - 1)), (by first | rfl | (simp; done) | (simp [*]; done)), H', ⟨by have := HK1.out; have := HK2.out; have := HJ14.out; have := HJ22.out; have := HJ51.out; omega⟩, ⟨by (with_reducible repeat (first | apply Kd.R_alloc | apply Kd.R_drewN | apply Kd.R_drew)); exact Kd.R_mono HO_5.out (fun _ hk => hk.2)⟩, ⟨by (with_reducible repeat (first | apply Kd.R_alloc | apply Kd.R_drewN | apply Kd.R_drew)); exact HO_7.out⟩, ⟨by repeat (first | (with_reducible first | exact HB.out | apply below_alloc | apply pw_below_drewN | apply below_drew1) | exact HB.out)⟩⟩
                                                          · rw [if_neg c114] at H
                                                            exact absurd H (by simp)
                                                        · rw [if_neg c113] at H
                                                          exact absurd H (by simp)
                                                      · rw [if_neg c112] at H
                                                        exact absurd H (by simp)
                                                    · rw [if_neg c110] at H
                                                      have c110b0 : ((bt a0 x6_1) == (bt a1 x8_2)) = false := beq_eq_false_iff_ne.mpr c110
                                                      have c110b1 : ((bt a0 x6_1) != (bt a1 x8_2)) = true := bne_iff_ne.mpr c110
                                                      have H' := Aside0.mk H
                                                      clear H
                                                      have p86 : 0 ≤ (x6_1 : Int) := of_decide_eq_true (by first | (with_reducible assumption) | assumption)
                                                      have q86 : x6_1 < (a0.size : Int) := of_decide_eq_true (by first | (with_reducible assumption) | assumption)
                                                      have hx86 := bt_at a0 x6_1
                                                      replace p86 := eq_true p86
                                                      replace q86 := eq_true q86
                                                      have p98 : 0 ≤ (x8_2 : Int) := of_decide_eq_true (by first | (with_reducible assumption) | assumption)
                                                      have q98 : x8_2 < (a1.size : Int) := of_decide_eq_true (by first | (with_reducible assumption) | assumption)
                                                      have hx98 := bt_at a1 x8_2
                                                      replace p98 := eq_true p98
                                                      replace q98 := eq_true q98
                                                      have p108 : 0 ≤ (x6_1 : Int) := of_decide_eq_true (by first | (with_reducible assumption) | assumption)
                                                      have q108 : x6_1 < (a0.size : Int) := of_decide_eq_true (by first | (with_reducible assumption) | assumption)
                                                      have hx108 := bt_at a0 x6_1
                                                      replace p108 := eq_true p108
                                                      replace q108 := eq_true q108
                                                      have p109 : 0 ≤ (x8_2 : Int) := of_decide_eq_true (by first | (with_reducible assumption) | assumption)
                                                      have q109 : x8_2 < (a1.size : Int) := of_decide_eq_true (by first | (with_reducible assumption) | assumption)
                                                      have hx109 := bt_at a1 x8_2
                                                      replace p109 := eq_true p109
                                                      replace q109 := eq_true q109
                                                      go_wp2
                                                      repeat (go_quiet (fail); try go_wp2)
                                                      go_roundg kj51
                                                      case measure => have := HK1.out; have := HK2.out; have := HJ14.out; have := HJ22.out; have := HJ51.out; omega
                                                      case rel => exact ⟨(x7_2), (wrap64 (x8_2 - 1)), (by first | rfl | (simp; done) | (simp [*]; done)), H', ⟨by have := HK1.out; have := HK2.out; have := HJ14.out; have := HJ22.out; have := HJ51.out; omega⟩, ⟨by (with_reducible repeat (first | apply Kd.R_alloc | apply Kd.R_drewN | apply Kd.R_drew)); exact HO_5.out⟩, ⟨by (with_reducible repeat (first | apply Kd.R_alloc | apply Kd.R_drewN | apply Kd.R_drew)); exact HO_7.out⟩, ⟨by repeat (first | (with_reducible first | exact HB.out | apply below_alloc | apply pw_below_drewN | apply below_drew1) | exact HB.out)⟩⟩
                                                · rw [if_neg c97] at H
                                                  exact absurd H (by simp)
                                            · rw [if_neg c85] at H
                                              exact absurd H (by simp)
                                          · rw [if_neg c84] at H
                                            have c84b0 : decide (x8_2 < (a1.size : Int)) = false := decide_eq_false c84
                                            clear c84
                                            have H' := Aside0.mk H
                                            clear H
                                            go_wp2
                                            repeat (go_quiet (fail); try go_wp2)
                                            go_roundg kj51
                                            case measure => have := HK1.out; have := HK2.out; have := HJ14.out; have := HJ22.out; have := HJ51.out; omega
                                            case rel => exact ⟨(x7_2), (wrap64 (x8_2 - 1)), (by first | rfl | (simp; done) | (simp [*]; done)), H', ⟨by have := HK1.out; have := HK2.out; have := HJ14.out; have := HJ22.out; have := HJ51.out; omega⟩, ⟨by (with_reducible repeat (first | apply Kd.R_alloc | apply Kd.R_drewN | apply Kd.R_drew)); exact HO_5.out⟩, ⟨by (with_reducible repeat (first | apply Kd.R_alloc | apply Kd.R_drewN | apply Kd.R_drew)); exact HO_7.out⟩, ⟨by repeat (first | (with_reducible first | exact HB.out | apply below_alloc | apply pw_below_drewN | apply below_drew1) | exact HB.out)⟩⟩
                                        · rw [if_neg c83] at H
                                          have c83b0 : decide (x6_1 < (a0.size : Int)) = false := decide_eq_false c83
                                          clear c83
                                          have H' := Aside0.mk H
                                          clear H
                                          go_wp2
                                          repeat (go_quiet (fail); try go_wp2)
                                          go_roundg kj51
                                          case measure => have := HK1.out; have := HK2.out; have := HJ14.out; have := HJ22.out; have := HJ51.out; omega
                                          case rel => exact ⟨(x7_2), (wrap64 (x8_2 - 1)), (by first | rfl | (simp; done) | (simp [*]; done)), H', ⟨by have := HK1.out; have := HK2.out; have := HJ14.out; have := HJ22.out; have := HJ51.out; omega⟩, ⟨by (with_reducible repeat (first | apply Kd.R_alloc | apply Kd.R_drewN | apply Kd.R_drew)); exact HO_5.out⟩, ⟨by (with_reducible repeat (first | apply Kd.R_alloc | apply Kd.R_drewN | apply Kd.R_drew)); exact HO_7.out⟩, ⟨by repeat (first | (with_reducible first | exact HB.out | apply below_alloc | apply pw_below_drewN | apply below_drew1) | exact HB.out)⟩⟩
                    · rw [if_neg c14] at H
                      have c14b0 : decide (0 ≤ x8_2) = false := decide_eq_false c14
                      clear c14
                      have H' := Aside0.mk H
                      clear H
                      go_wp2
                      repeat (go_quiet (fail); try go_wp2)
                      go_roundg k2
                      case measure => have := HK1.out; have := HK2.out; omega
                      case rel => exact ⟨(x7_2), (wrap64 (x6_1 - 1)), (by first | rfl | (simp; done) | (simp [*]; done)), H', ⟨by have := HK1.out; have := HK2.out; omega⟩, ⟨by (with_reducible repeat (first | apply Kd.R_alloc | apply Kd.R_drewN | apply Kd.R_drew)); exact Kd.R_mono HO_7.out (fun _ hk => trivial)⟩, ⟨by repeat (first | (with_reducible first | exact HB.out | apply below_alloc | apply pw_below_drewN | apply below_drew1) | exact HB.out)⟩⟩
              · rw [if_neg c11] at H
                exact absurd H (by simp)
            · rw [if_neg c10] at H
              exact absurd H (by simp)
          · rw [if_neg c8] at H
            have c8b0 : decide (0 ≤ x6_1) = false := decide_eq_false c8
            clear c8
            by_cases c119 : 0 < (x5_1.length : Int)
            · rw [if_pos c119] at H
              have c119b0 : decide (0 < (x5_1.length : Int)) = true := decide_eq_true c119
              have c119b1 : decide (0 < x5_1.length) = true := decide_eq_true (by omega)
              clear c119
              obtain rfl := Option.some.inj H
              obtain ⟨Ao120, co120, eo120⟩ := Kd.R_slice HO_5.out
              subst eo120
              have p218 : 0 ≤ (0 : Int) := (by omega)
              have q218 : 0 < (x5_1.length : Int) := of_decide_eq_true (by first | (with_reducible assumption) | assumption)
              obtain ⟨ad218, e218, hx218_0⟩ := Kd.at_bool (Kd.R_reads' HO_5.out).2.2 0 p218 q218
              cases e218
              have qi218 : (0 < x5_1.length) = True := eq_true (by omega)
              (try rw [show ((0 : Int)).toNat = 0 from rfl] at hx218_0)
              (try rw [Addr.add_zero'] at hx218_0)
              replace p218 := eq_true p218
              replace q218 := eq_true q218
              go_wp2
              repeat (go_quiet (fail); try go_wp2)
              go_ret
              exact ⟨by first | rfl | (simp [errW_none, errW_some] <;> rfl) | (simp only [← hji3]; first | rfl | (simp [errW_none, errW_some] <;> rfl)) | (simp [*, errW_none, errW_some] <;> rfl), by repeat (first | (with_reducible first | exact HB.out | apply below_alloc | apply pw_below_drewN | apply below_drew1) | exact HB.out)⟩
            · rw [if_neg c119] at H
              exact absurd H (by simp)
    · rw [if_neg c5] at H
      exact absurd H (by simp)
  · rw [if_neg c4] at H
    exact absurd H (by simp)

end Go.Proofs.Ytbdaledkkbkhgaa.PGlob
