/- Part of a proof of this seat's statements: plain functions, contracts and rows, written by a program (the kit's printer, some functions given by hand) out of the translation; no conditions of its own. -/
import Derived.Test.YtmamaijiphdggaaDoorPOpx0
namespace Go.Proofs.YtmamaijiphdggaaDoor.POp
open Go.RowKit Go.Proofs.YtmamaijiphdggaaDoor.Given Go.Proofs.YtmamaijiphdggaaDoorW.PrintWords Go.Proofs.YtmamaijiphdggaaDoorW.PrintLast Go.Proofs.YtmamaijiphdggaaDoorW.PrintMore
attribute [local go_sem] max2_int min2_int max_two min_two max_three min_three max_four min_four   -- for this text's walks alone
set_option linter.unusedVariables false
set_option linter.unusedSimpArgs false

/-! ### secateurref07_Shape: function 17 -/
mutual
def secateurref07_Shape.j0 : Nat → Int → Bool → Option (ByteArray)
  | 0, _, _ => none
  | k + 1, x3, x6 => if x6 = true then (some (⟨#[97]⟩ : ByteArray)) else (if x3 = 4 then (secateurref07_Shape.j1 k x3 (x3 == 4)) else (if x3 = 10 then (secateurref07_Shape.j1 k x3 (x3 == 10)) else (if x3 = 12 then (secateurref07_Shape.j1 k x3 (x3 == 12)) else (if x3 = 28 then (secateurref07_Shape.j1 k x3 (x3 == 28)) else (secateurref07_Shape.j1 k x3 (x3 == 29))))))
def secateurref07_Shape.j1 : Nat → Int → Bool → Option (ByteArray)
  | 0, _, _ => none
  | k + 1, x3, x9 => if x9 = true then (some (⟨#[97, 98]⟩ : ByteArray)) else (if x3 = 5 then (some (⟨#[97, 98, 99, 114]⟩ : ByteArray)) else (if x3 = 6 then (some (⟨#[116]⟩ : ByteArray)) else (if x3 = 7 then (secateurref07_Shape.j2 k x3 (x3 == 7)) else (secateurref07_Shape.j2 k x3 (x3 == 8)))))
def secateurref07_Shape.j2 : Nat → Int → Bool → Option (ByteArray)
  | 0, _, _ => none
  | k + 1, x3, x19 => if x19 = true then (some (⟨#[98, 116]⟩ : ByteArray)) else (if x3 = 9 then (some (⟨#[97, 67]⟩ : ByteArray)) else (if x3 = 11 then (secateurref07_Shape.j3 k x3 (x3 == 11)) else (if x3 = 24 then (secateurref07_Shape.j3 k x3 (x3 == 24)) else (secateurref07_Shape.j3 k x3 (x3 == 25)))))
def secateurref07_Shape.j3 : Nat → Int → Bool → Option (ByteArray)
  | 0, _, _ => none
  | k + 1, x3, x24 => if x24 = true then (some (⟨#[97, 98, 67]⟩ : ByteArray)) else (if x3 = 13 then (secateurref07_Shape.j4 k x3 (x3 == 13)) else (secateurref07_Shape.j4 k x3 (x3 == 14)))
def secateurref07_Shape.j4 : Nat → Int → Bool → Option (ByteArray)
  | 0, _, _ => none
  | k + 1, x3, x28 => if x28 = true then (some (⟨#[97, 98, 99]⟩ : ByteArray)) else (if x3 = 15 then (some (⟨#[97, 98, 70]⟩ : ByteArray)) else (if x3 = 16 then (some (⟨#[98, 99, 70]⟩ : ByteArray)) else (if x3 = 17 then (some (⟨#[97, 70]⟩ : ByteArray)) else (if x3 = 18 then (some (⟨#[99, 70]⟩ : ByteArray)) else (if x3 = 19 then (secateurref07_Shape.j5 k x3 (x3 == 19)) else (if x3 = 20 then (secateurref07_Shape.j5 k x3 (x3 == 20)) else (secateurref07_Shape.j5 k x3 (x3 == 21))))))))
def secateurref07_Shape.j5 : Nat → Int → Bool → Option (ByteArray)
  | 0, _, _ => none
  | k + 1, x3, x39 => if x39 = true then (some (⟨#[97, 77, 118]⟩ : ByteArray)) else (if x3 = 22 then (secateurref07_Shape.j6 k x3 (x3 == 22)) else (if x3 = 27 then (secateurref07_Shape.j6 k x3 (x3 == 27)) else (secateurref07_Shape.j6 k x3 (x3 == 31))))
def secateurref07_Shape.j6 : Nat → Int → Bool → Option (ByteArray)
  | 0, _, _ => none
  | k + 1, x3, x43 => if x43 = true then (some (⟨#[98]⟩ : ByteArray)) else (if x3 = 30 then (some (⟨#[107]⟩ : ByteArray)) else (if x3 = 32 then (some (⟨#[67]⟩ : ByteArray)) else (some (⟨#[]⟩ : ByteArray))))
end
def secateurref07_Shape.f (k : Nat) (a0 : Int) : Option (ByteArray) := if a0 = 2 then (some (⟨#[97, 107]⟩ : ByteArray)) else (if a0 = 3 then (secateurref07_Shape.j0 k a0 (a0 == 3)) else (secateurref07_Shape.j0 k a0 (a0 == 26)))
theorem secateurref07_Shape.mono_l : ∀ k, (∀ y0 y1, LeO (secateurref07_Shape.j0 k y0 y1) (secateurref07_Shape.j0 (k + 1) y0 y1)) ∧ (∀ y0 y1, LeO (secateurref07_Shape.j1 k y0 y1) (secateurref07_Shape.j1 (k + 1) y0 y1)) ∧ (∀ y0 y1, LeO (secateurref07_Shape.j2 k y0 y1) (secateurref07_Shape.j2 (k + 1) y0 y1)) ∧ (∀ y0 y1, LeO (secateurref07_Shape.j3 k y0 y1) (secateurref07_Shape.j3 (k + 1) y0 y1)) ∧ (∀ y0 y1, LeO (secateurref07_Shape.j4 k y0 y1) (secateurref07_Shape.j4 (k + 1) y0 y1)) ∧ (∀ y0 y1, LeO (secateurref07_Shape.j5 k y0 y1) (secateurref07_Shape.j5 (k + 1) y0 y1)) ∧ (∀ y0 y1, LeO (secateurref07_Shape.j6 k y0 y1) (secateurref07_Shape.j6 (k + 1) y0 y1))
  | 0 => ⟨fun _ _ r h => by simp [secateurref07_Shape.j0] at h, fun _ _ r h => by simp [secateurref07_Shape.j1] at h, fun _ _ r h => by simp [secateurref07_Shape.j2] at h, fun _ _ r h => by simp [secateurref07_Shape.j3] at h, fun _ _ r h => by simp [secateurref07_Shape.j4] at h, fun _ _ r h => by simp [secateurref07_Shape.j5] at h, fun _ _ r h => by simp [secateurref07_Shape.j6] at h⟩
  | k + 1 => by
    obtain ⟨ih0, ih1, ih2, ih3, ih4, ih5, ih6⟩ := secateurref07_Shape.mono_l k
    refine ⟨?_, ?_, ?_, ?_, ?_, ?_, ?_⟩
    · intro y0 y1
      unfold secateurref07_Shape.j0
      repeat' first
      | (with_reducible exact ih0 _ _)
      | (with_reducible exact ih1 _ _)
      | (with_reducible exact ih2 _ _)
      | (with_reducible exact ih3 _ _)
      | (with_reducible exact ih4 _ _)
      | (with_reducible exact ih5 _ _)
      | (with_reducible exact ih6 _ _)
      | (with_reducible exact LeO.refl _)
      | (with_reducible exact LeO.none _)
      | (with_reducible refine LeO.ite ?_ ?_)
      | (with_reducible refine LeO.bind ?_ (fun _ => ?_))
      | exact ih0 _ _
      | exact ih1 _ _
      | exact ih2 _ _
      | exact ih3 _ _
      | exact ih4 _ _
      | exact ih5 _ _
      | exact ih6 _ _
      | exact LeO.none _
      | refine LeO.ite ?_ ?_
      | refine LeO.bind ?_ (fun _ => ?_)
    · intro y0 y1
      unfold secateurref07_Shape.j1
      repeat' first
      | (with_reducible exact ih0 _ _)
      | (with_reducible exact ih1 _ _)
      | (with_reducible exact ih2 _ _)
      | (with_reducible exact ih3 _ _)
      | (with_reducible exact ih4 _ _)
      | (with_reducible exact ih5 _ _)
      | (with_reducible exact ih6 _ _)
      | (with_reducible exact LeO.refl _)
      | (with_reducible exact LeO.none _)
      | (with_reducible refine LeO.ite ?_ ?_)
      | (with_reducible refine LeO.bind ?_ (fun _ => ?_))
      | exact ih0 _ _
      | exact ih1 _ _
      | exact ih2 _ _
      | exact ih3 _ _
      | exact ih4 _ _
      | exact ih5 _ _
      | exact ih6 _ _
      | exact LeO.none _
      | refine LeO.ite ?_ ?_
      | refine LeO.bind ?_ (fun _ => ?_)
    · intro y0 y1
      unfold secateurref07_Shape.j2
      repeat' first
      | (with_reducible exact ih0 _ _)
      | (with_reducible exact ih1 _ _)
      | (with_reducible exact ih2 _ _)
      | (with_reducible exact ih3 _ _)
      | (with_reducible exact ih4 _ _)
      | (with_reducible exact ih5 _ _)
      | (with_reducible exact ih6 _ _)
      | (with_reducible exact LeO.refl _)
      | (with_reducible exact LeO.none _)
      | (with_reducible refine LeO.ite ?_ ?_)
      | (with_reducible refine LeO.bind ?_ (fun _ => ?_))
      | exact ih0 _ _
      | exact ih1 _ _
      | exact ih2 _ _
      | exact ih3 _ _
      | exact ih4 _ _
      | exact ih5 _ _
      | exact ih6 _ _
      | exact LeO.none _
      | refine LeO.ite ?_ ?_
      | refine LeO.bind ?_ (fun _ => ?_)
    · intro y0 y1
      unfold secateurref07_Shape.j3
      repeat' first
      | (with_reducible exact ih0 _ _)
      | (with_reducible exact ih1 _ _)
      | (with_reducible exact ih2 _ _)
      | (with_reducible exact ih3 _ _)
      | (with_reducible exact ih4 _ _)
      | (with_reducible exact ih5 _ _)
      | (with_reducible exact ih6 _ _)
      | (with_reducible exact LeO.refl _)
      | (with_reducible exact LeO.none _)
      | (with_reducible refine LeO.ite ?_ ?_)
      | (with_reducible refine LeO.bind ?_ (fun _ => ?_))
      | exact ih0 _ _
      | exact ih1 _ _
      | exact ih2 _ _
      | exact ih3 _ _
      | exact ih4 _ _
      | exact ih5 _ _
      | exact ih6 _ _
      | exact LeO.none _
      | refine LeO.ite ?_ ?_
      | refine LeO.bind ?_ (fun _ => ?_)
    · intro y0 y1
      unfold secateurref07_Shape.j4
      repeat' first
      | (with_reducible exact ih0 _ _)
      | (with_reducible exact ih1 _ _)
      | (with_reducible exact ih2 _ _)
      | (with_reducible exact ih3 _ _)
      | (with_reducible exact ih4 _ _)
      | (with_reducible exact ih5 _ _)
      | (with_reducible exact ih6 _ _)
      | (with_reducible exact LeO.refl _)
      | (with_reducible exact LeO.none _)
      | (with_reducible refine LeO.ite ?_ ?_)
      | (with_reducible refine LeO.bind ?_ (fun _ => ?_))
      | exact ih0 _ _
      | exact ih1 _ _
      | exact ih2 _ _
      | exact ih3 _ _
      | exact ih4 _ _
      | exact ih5 _ _
      | exact ih6 _ _
      | exact LeO.none _
      | refine LeO.ite ?_ ?_
      | refine LeO.bind ?_ (fun _ => ?_)
    · intro y0 y1
      unfold secateurref07_Shape.j5
      repeat' first
      | (with_reducible exact ih0 _ _)
      | (with_reducible exact ih1 _ _)
      | (with_reducible exact ih2 _ _)
      | (with_reducible exact ih3 _ _)
      | (with_reducible exact ih4 _ _)
      | (with_reducible exact ih5 _ _)
      | (with_reducible exact ih6 _ _)
      | (with_reducible exact LeO.refl _)
      | (with_reducible exact LeO.none _)
      | (with_reducible refine LeO.ite ?_ ?_)
      | (with_reducible refine LeO.bind ?_ (fun _ => ?_))
      | exact ih0 _ _
      | exact ih1 _ _
      | exact ih2 _ _
      | exact ih3 _ _
      | exact ih4 _ _
      | exact ih5 _ _
      | exact ih6 _ _
      | exact LeO.none _
      | refine LeO.ite ?_ ?_
      | refine LeO.bind ?_ (fun _ => ?_)
    · intro y0 y1
      unfold secateurref07_Shape.j6
      repeat' first
      | (with_reducible exact ih0 _ _)
      | (with_reducible exact ih1 _ _)
      | (with_reducible exact ih2 _ _)
      | (with_reducible exact ih3 _ _)
      | (with_reducible exact ih4 _ _)
      | (with_reducible exact ih5 _ _)
      | (with_reducible exact ih6 _ _)
      | (with_reducible exact LeO.refl _)
      | (with_reducible exact LeO.none _)
      | (with_reducible refine LeO.ite ?_ ?_)
      | (with_reducible refine LeO.bind ?_ (fun _ => ?_))
      | exact ih0 _ _
      | exact ih1 _ _
      | exact ih2 _ _
      | exact ih3 _ _
      | exact ih4 _ _
      | exact ih5 _ _
      | exact ih6 _ _
      | exact LeO.none _
      | refine LeO.ite ?_ ?_
      | refine LeO.bind ?_ (fun _ => ?_)
theorem secateurref07_Shape.mono : ∀ a0 k, LeO (secateurref07_Shape.f k a0) (secateurref07_Shape.f (k + 1) a0) := by
  intro a0 k
  obtain ⟨ih0, ih1, ih2, ih3, ih4, ih5, ih6⟩ := secateurref07_Shape.mono_l k
  unfold secateurref07_Shape.f
  repeat' first
      | (with_reducible exact ih0 _ _)
      | (with_reducible exact ih1 _ _)
      | (with_reducible exact ih2 _ _)
      | (with_reducible exact ih3 _ _)
      | (with_reducible exact ih4 _ _)
      | (with_reducible exact ih5 _ _)
      | (with_reducible exact ih6 _ _)
      | (with_reducible exact LeO.refl _)
      | (with_reducible exact LeO.none _)
      | (with_reducible refine LeO.ite ?_ ?_)
      | (with_reducible refine LeO.bind ?_ (fun _ => ?_))
      | exact ih0 _ _
      | exact ih1 _ _
      | exact ih2 _ _
      | exact ih3 _ _
      | exact ih4 _ _
      | exact ih5 _ _
      | exact ih6 _ _
      | exact LeO.none _
      | refine LeO.ite ?_ ?_
      | refine LeO.bind ?_ (fun _ => ?_)
set_option maxHeartbeats 8000000 in
set_option maxRecDepth 100000 in
theorem secateurref07_Shape.calls (k : Nat) (a0 : Int) (r : ByteArray) (w : World) (h : secateurref07_Shape.f k a0 = some r) :
    Calls Tryd.prog 17 #[.int .i64 a0] w fun e w' => e = .returned (.string r) ∧ Drawn0 w w' := by
  have H : (if a0 = 2 then (some (⟨#[97, 107]⟩ : ByteArray)) else (if a0 = 3 then (secateurref07_Shape.j0 k a0 (a0 == 3)) else (secateurref07_Shape.j0 k a0 (a0 == 26)))) = some r := h
  clear h
  by_cases c2 : a0 = 2
  · rw [if_pos c2] at H
    have c2b0 : (a0 == 2) = true := beq_iff_eq.mpr c2
    have c2b1 : (a0 != 2) = false := bne_eq_false_iff_eq.mpr c2
    clear c2
    obtain rfl := Option.some.inj H
    simp only [Option.some.injEq, Prod.mk.injEq] at H
    obtain ⟨rfl⟩ := H
    go_enter Tryd.func17, Tryd.ntmps17
    go_wp2
    go_ret
    exact ⟨by first | rfl | (simp; done) | (simp [*]; done), by repeat (first | exact Drawn0.refl _ | apply Drawn0.step)⟩
  · rw [if_neg c2] at H
    have c2b0 : (a0 == 2) = false := beq_eq_false_iff_ne.mpr c2
    have c2b1 : (a0 != 2) = true := bne_iff_ne.mpr c2
    have HC3 := Aside0.mk H
    clear H
    go_enter Tryd.func17, Tryd.ntmps17
    go_upto_if 6 with (fail)
    go_cut [6] (fun v6 wc => ∃ (kq : Nat) (x6_2 : Bool), v6 = .bool x6_2 ∧ Aside0 (secateurref07_Shape.j0 kq a0 x6_2 = some r) ∧ Aside0 (kq ≤ k) ∧ Drawn0 w wc)
    case first =>
      have H := HC3.out
      clear HC3
      by_cases c4 : a0 = 3
      · rw [if_pos c4] at H
        have c4b0 : (a0 == 3) = true := beq_iff_eq.mpr c4
        have c4b1 : (a0 != 3) = false := bne_eq_false_iff_eq.mpr c4
        clear c4
        (first | rw [c4b0] | (simp only [i64_w, i32_w]; rw [c4b0]) | skip)
        have H' := Aside0.mk H
        clear H
        go_wp2
        go_meet
        case rel => exact ⟨_, ((a0 == 3)), (by first | rfl | (simp; done) | (simp [*]; done)), H', ⟨by first | omega | exact Nat.le_refl _⟩, by repeat (first | exact Drawn0.refl _ | apply Drawn0.step)⟩
      · rw [if_neg c4] at H
        have c4b0 : (a0 == 3) = false := beq_eq_false_iff_ne.mpr c4
        have c4b1 : (a0 != 3) = true := bne_iff_ne.mpr c4
        (first | rw [c4b0] | (simp only [i64_w, i32_w]; rw [c4b0]) | skip)
        have H' := Aside0.mk H
        clear H
        go_wp2
        go_meet
        case rel => exact ⟨_, ((a0 == 26)), (by first | rfl | (simp; done) | (simp [*]; done)), H', ⟨by first | omega | exact Nat.le_refl _⟩, by repeat (first | exact Drawn0.refl _ | apply Drawn0.step)⟩
    case rest =>
      clear HC3
      try clear c1
      try clear c2
      try clear c2b0
      try clear c2b1
      try clear p2
      try clear c4
      try clear c4b0
      try clear c4b1
      obtain ⟨kq, x6_2, rfl, HA, HJ2, ⟨mc2, rfl⟩⟩ := hcut
      cases kq with
      | zero => exact absurd HA.out (by simp [secateurref07_Shape.j0])
      | succ kj2 =>
        have H := HA.out
        clear HA
        simp only [secateurref07_Shape.j0] at H
        by_cases c5 : x6_2 = true
        · subst c5
          have H1 : (some (⟨#[97]⟩ : ByteArray)) = some r := by rw [if_pos rfl] at H; exact H
          clear H
          have H := H1
          clear H1
          obtain rfl := Option.some.inj H
          simp only [Option.some.injEq, Prod.mk.injEq] at H
          obtain ⟨rfl⟩ := H
          go_wp2
          go_ret
          exact ⟨by first | rfl | (simp; done) | (simp [*]; done), by repeat (first | exact Drawn0.refl _ | apply Drawn0.step)⟩
        · replace c5 := Bool.eq_false_iff.mpr c5
          subst c5
          have H1 : (if a0 = 4 then (secateurref07_Shape.j1 kj2 a0 (a0 == 4)) else (if a0 = 10 then (secateurref07_Shape.j1 kj2 a0 (a0 == 10)) else (if a0 = 12 then (secateurref07_Shape.j1 kj2 a0 (a0 == 12)) else (if a0 = 28 then (secateurref07_Shape.j1 kj2 a0 (a0 == 28)) else (secateurref07_Shape.j1 kj2 a0 (a0 == 29)))))) = some r := by rw [if_neg (show ¬ (false = true) by decide)] at H; exact H
          clear H
          have H := H1
          clear H1
          have HC6 := Aside0.mk H
          clear H
          go_upto_if 9 with (fail)
          go_cut [9] (fun v9 wc => ∃ (kq : Nat) (x9_5 : Bool), v9 = .bool x9_5 ∧ Aside0 (secateurref07_Shape.j1 kq a0 x9_5 = some r) ∧ Aside0 (kq ≤ kj2) ∧ Drawn0 w wc)
          case first =>
            have H := HC6.out
            clear HC6
            by_cases c7 : a0 = 4
            · rw [if_pos c7] at H
              have c7b0 : (a0 == 4) = true := beq_iff_eq.mpr c7
              have c7b1 : (a0 != 4) = false := bne_eq_false_iff_eq.mpr c7
              clear c7
              (first | rw [c7b0] | (simp only [i64_w, i32_w]; rw [c7b0]) | skip)
              have H' := Aside0.mk H
              clear H
              go_wp2
              go_meet
              case rel => exact ⟨_, ((a0 == 4)), (by first | rfl | (simp; done) | (simp [*]; done)), H', ⟨by have := HJ2.out; first | omega | exact Nat.le_refl _⟩, by repeat (first | exact Drawn0.refl _ | apply Drawn0.step)⟩
            · rw [if_neg c7] at H
              have c7b0 : (a0 == 4) = false := beq_eq_false_iff_ne.mpr c7
              have c7b1 : (a0 != 4) = true := bne_iff_ne.mpr c7
              (first | rw [c7b0] | (simp only [i64_w, i32_w]; rw [c7b0]) | skip)
              by_cases c8 : a0 = 10
              · rw [if_pos c8] at H
                have c8b0 : (a0 == 10) = true := beq_iff_eq.mpr c8
                have c8b1 : (a0 != 10) = false := bne_eq_false_iff_eq.mpr c8
                clear c8
                have H' := Aside0.mk H
                clear H
                go_wp2
                go_meet
                case rel => exact ⟨_, ((a0 == 10)), (by first | rfl | (simp; done) | (simp [*]; done)), H', ⟨by have := HJ2.out; first | omega | exact Nat.le_refl _⟩, by repeat (first | exact Drawn0.refl _ | apply Drawn0.step)⟩
              · rw [if_neg c8] at H
                have c8b0 : (a0 == 10) = false := beq_eq_false_iff_ne.mpr c8
                have c8b1 : (a0 != 10) = true := bne_iff_ne.mpr c8
                by_cases c9 : a0 = 12
                · rw [if_pos c9] at H
                  have c9b0 : (a0 == 12) = true := beq_iff_eq.mpr c9
                  have c9b1 : (a0 != 12) = false := bne_eq_false_iff_eq.mpr c9
                  clear c9
                  have H' := Aside0.mk H
                  clear H
                  go_wp2
                  go_meet
                  case rel => exact ⟨_, ((a0 == 12)), (by first | rfl | (simp; done) | (simp [*]; done)), H', ⟨by have := HJ2.out; first | omega | exact Nat.le_refl _⟩, by repeat (first | exact Drawn0.refl _ | apply Drawn0.step)⟩
                · rw [if_neg c9] at H
                  have c9b0 : (a0 == 12) = false := beq_eq_false_iff_ne.mpr c9
                  have c9b1 : (a0 != 12) = true := bne_iff_ne.mpr c9
                  by_cases c10 : a0 = 28
                  · rw [if_pos c10] at H
                    have c10b0 : (a0 == 28) = true := beq_iff_eq.mpr c10
                    have c10b1 : (a0 != 28) = false := bne_eq_false_iff_eq.mpr c10
                    clear c10
                    have H' := Aside0.mk H
                    clear H
                    go_wp2
                    go_meet
                    case rel => exact ⟨_, ((a0 == 28)), (by first | rfl | (simp; done) | (simp [*]; done)), H', ⟨by have := HJ2.out; first | omega | exact Nat.le_refl _⟩, by repeat (first | exact Drawn0.refl _ | apply Drawn0.step)⟩
                  · rw [if_neg c10] at H
                    have c10b0 : (a0 == 28) = false := beq_eq_false_iff_ne.mpr c10
                    have c10b1 : (a0 != 28) = true := bne_iff_ne.mpr c10
                    have H' := Aside0.mk H
                    clear H
                    go_wp2
                    go_meet
                    case rel => exact ⟨_, ((a0 == 29)), (by first | rfl | (simp; done) | (simp [*]; done)), H', ⟨by have := HJ2.out; first | omega | exact Nat.le_refl _⟩, by repeat (first | exact Drawn0.refl _ | apply Drawn0.step)⟩
          case rest =>
            clear HC6
            try clear c1
            try clear c2
            try clear c2b0
            try clear c2b1
            try clear p2
            try clear c4
            try clear c4b0
            try clear c4b1
            try clear c5
            try clear c7
            try clear c7b0
            try clear c7b1
            try clear c8
            try clear c8b0
            try clear c8b1
            try clear c9
            try clear c9b0
            try clear c9b1
            try clear c10
            try clear c10b0
            try clear c10b1
            try clear p2
            obtain ⟨kq, x9_5, rfl, HA, HJ5, ⟨mc5, rfl⟩⟩ := hcut
            cases kq with
            | zero => exact absurd HA.out (by simp [secateurref07_Shape.j1])
            | succ kj5 =>
              have H := HA.out
              clear HA
              simp only [secateurref07_Shape.j1] at H
              by_cases c11 : x9_5 = true
              · subst c11
                have H1 : (some (⟨#[97, 98]⟩ : ByteArray)) = some r := by rw [if_pos rfl] at H; exact H
                clear H
                have H := H1
                clear H1
                obtain rfl := Option.some.inj H
                simp only [Option.some.injEq, Prod.mk.injEq] at H
                obtain ⟨rfl⟩ := H
                go_wp2
                go_ret
                exact ⟨by first | rfl | (simp; done) | (simp [*]; done), by repeat (first | exact Drawn0.refl _ | apply Drawn0.step)⟩
              · replace c11 := Bool.eq_false_iff.mpr c11
                subst c11
                have H1 : (if a0 = 5 then (some (⟨#[97, 98, 99, 114]⟩ : ByteArray)) else (if a0 = 6 then (some (⟨#[116]⟩ : ByteArray)) else (if a0 = 7 then (secateurref07_Shape.j2 kj5 a0 (a0 == 7)) else (secateurref07_Shape.j2 kj5 a0 (a0 == 8))))) = some r := by rw [if_neg (show ¬ (false = true) by decide)] at H; exact H
                clear H
                have H := H1
                clear H1
                by_cases c12 : a0 = 5
                · rw [if_pos c12] at H
                  have c12b0 : (a0 == 5) = true := beq_iff_eq.mpr c12
                  have c12b1 : (a0 != 5) = false := bne_eq_false_iff_eq.mpr c12
                  clear c12
                  obtain rfl := Option.some.inj H
                  simp only [Option.some.injEq, Prod.mk.injEq] at H
                  obtain ⟨rfl⟩ := H
                  go_wp2
                  go_ret
                  exact ⟨by first | rfl | (simp; done) | (simp [*]; done), by repeat (first | exact Drawn0.refl _ | apply Drawn0.step)⟩
                · rw [if_neg c12] at H
                  have c12b0 : (a0 == 5) = false := beq_eq_false_iff_ne.mpr c12
                  have c12b1 : (a0 != 5) = true := bne_iff_ne.mpr c12
                  by_cases c13 : a0 = 6
                  · rw [if_pos c13] at H
                    have c13b0 : (a0 == 6) = true := beq_iff_eq.mpr c13
                    have c13b1 : (a0 != 6) = false := bne_eq_false_iff_eq.mpr c13
                    clear c13
                    obtain rfl := Option.some.inj H
                    simp only [Option.some.injEq, Prod.mk.injEq] at H
                    obtain ⟨rfl⟩ := H
                    go_wp2
                    go_ret
                    exact ⟨by first | rfl | (simp; done) | (simp [*]; done), by repeat (first | exact Drawn0.refl _ | apply Drawn0.step)⟩
                  · rw [if_neg c13] at H
                    have c13b0 : (a0 == 6) = false := beq_eq_false_iff_ne.mpr c13
                    have c13b1 : (a0 != 6) = true := bne_iff_ne.mpr c13
                    have HC14 := Aside0.mk H
                    clear H
                    go_upto_if 19 with (fail)
                    go_cut [19] (fun v19 wc => ∃ (kq : Nat) (x19_13 : Bool), v19 = .bool x19_13 ∧ Aside0 (secateurref07_Shape.j2 kq a0 x19_13 = some r) ∧ Aside0 (kq ≤ kj5) ∧ Drawn0 w wc)
                    case first =>
                      have H := HC14.out
                      clear HC14
                      by_cases c15 : a0 = 7
                      · rw [if_pos c15] at H
                        have c15b0 : (a0 == 7) = true := beq_iff_eq.mpr c15
                        have c15b1 : (a0 != 7) = false := bne_eq_false_iff_eq.mpr c15
                        clear c15
                        (first | rw [c15b0] | (simp only [i64_w, i32_w]; rw [c15b0]) | skip)
                        have H' := Aside0.mk H
                        clear H
                        go_wp2
                        go_meet
                        case rel => exact ⟨_, ((a0 == 7)), (by first | rfl | (simp; done) | (simp [*]; done)), H', ⟨by have := HJ2.out; have := HJ5.out; first | omega | exact Nat.le_refl _⟩, by repeat (first | exact Drawn0.refl _ | apply Drawn0.step)⟩
                      · rw [if_neg c15] at H
                        have c15b0 : (a0 == 7) = false := beq_eq_false_iff_ne.mpr c15
                        have c15b1 : (a0 != 7) = true := bne_iff_ne.mpr c15
                        (first | rw [c15b0] | (simp only [i64_w, i32_w]; rw [c15b0]) | skip)
                        have H' := Aside0.mk H
                        clear H
                        go_wp2
                        go_meet
                        case rel => exact ⟨_, ((a0 == 8)), (by first | rfl | (simp; done) | (simp [*]; done)), H', ⟨by have := HJ2.out; have := HJ5.out; first | omega | exact Nat.le_refl _⟩, by repeat (first | exact Drawn0.refl _ | apply Drawn0.step)⟩
                    case rest =>
                      clear HC14
                      try clear c1
                      try clear c2
                      try clear c2b0
                      try clear c2b1
                      try clear p2
                      try clear c4
                      try clear c4b0
                      try clear c4b1
                      try clear c5
                      try clear c7
                      try clear c7b0
                      try clear c7b1
                      try clear c8
                      try clear c8b0
                      try clear c8b1
                      try clear c9
                      try clear c9b0
                      try clear c9b1
                      try clear c10
                      try clear c10b0
                      try clear c10b1
                      try clear c11
                      try clear c12
                      try clear c12b0
                      try clear c12b1
                      try clear c13
                      try clear c13b0
                      try clear c13b1
                      try clear c15
                      try clear c15b0
                      try clear c15b1
                      try clear p2
                      obtain ⟨kq, x19_13, rfl, HA, HJ13, ⟨mc13, rfl⟩⟩ := hcut
                      cases kq with
                      | zero => exact absurd HA.out (by simp [secateurref07_Shape.j2])
                      | succ kj13 =>
                        have H := HA.out
                        clear HA
                        simp only [secateurref07_Shape.j2] at H
                        by_cases c16 : x19_13 = true
                        · subst c16
                          have H1 : (some (⟨#[98, 116]⟩ : ByteArray)) = some r := by rw [if_pos rfl] at H; exact H
                          clear H
                          have H := H1
                          clear H1
                          obtain rfl := Option.some.inj H
                          simp only [Option.some.injEq, Prod.mk.injEq] at H
                          obtain ⟨rfl⟩ := H
                          go_wp2
                          go_ret
                          exact ⟨by first | rfl | (simp; done) | (simp [*]; done), by repeat (first | exact Drawn0.refl _ | apply Drawn0.step)⟩
                        · replace c16 := Bool.eq_false_iff.mpr c16
                          subst c16
                          have H1 : (if a0 = 9 then (some (⟨#[97, 67]⟩ : ByteArray)) else (if a0 = 11 then (secateurref07_Shape.j3 kj13 a0 (a0 == 11)) else (if a0 = 24 then (secateurref07_Shape.j3 kj13 a0 (a0 == 24)) else (secateurref07_Shape.j3 kj13 a0 (a0 == 25))))) = some r := by rw [if_neg (show ¬ (false = true) by decide)] at H; exact H
                          clear H
                          have H := H1
                          clear H1
                          by_cases c17 : a0 = 9
                          · rw [if_pos c17] at H
                            have c17b0 : (a0 == 9) = true := beq_iff_eq.mpr c17
                            have c17b1 : (a0 != 9) = false := bne_eq_false_iff_eq.mpr c17
                            clear c17
                            obtain rfl := Option.some.inj H
                            simp only [Option.some.injEq, Prod.mk.injEq] at H
                            obtain ⟨rfl⟩ := H
                            go_wp2
                            go_ret
                            exact ⟨by first | rfl | (simp; done) | (simp [*]; done), by repeat (first | exact Drawn0.refl _ | apply Drawn0.step)⟩
                          · rw [if_neg c17] at H
                            have c17b0 : (a0 == 9) = false := beq_eq_false_iff_ne.mpr c17
                            have c17b1 : (a0 != 9) = true := bne_iff_ne.mpr c17
                            have HC18 := Aside0.mk H
                            clear H
                            go_upto_if 24 with (fail)
                            go_cut [24] (fun v24 wc => ∃ (kq : Nat) (x24_17 : Bool), v24 = .bool x24_17 ∧ Aside0 (secateurref07_Shape.j3 kq a0 x24_17 = some r) ∧ Aside0 (kq ≤ kj13) ∧ Drawn0 w wc)
                            case first =>
                              have H := HC18.out
                              clear HC18
                              by_cases c19 : a0 = 11
                              · rw [if_pos c19] at H
                                have c19b0 : (a0 == 11) = true := beq_iff_eq.mpr c19
                                have c19b1 : (a0 != 11) = false := bne_eq_false_iff_eq.mpr c19
                                clear c19
                                (first | rw [c19b0] | (simp only [i64_w, i32_w]; rw [c19b0]) | skip)
                                have H' := Aside0.mk H
                                clear H
                                go_wp2
                                go_meet
                                case rel => exact ⟨_, ((a0 == 11)), (by first | rfl | (simp; done) | (simp [*]; done)), H', ⟨by have := HJ2.out; have := HJ5.out; have := HJ13.out; first | omega | exact Nat.le_refl _⟩, by repeat (first | exact Drawn0.refl _ | apply Drawn0.step)⟩
                              · rw [if_neg c19] at H
                                have c19b0 : (a0 == 11) = false := beq_eq_false_iff_ne.mpr c19
                                have c19b1 : (a0 != 11) = true := bne_iff_ne.mpr c19
                                (first | rw [c19b0] | (simp only [i64_w, i32_w]; rw [c19b0]) | skip)
                                by_cases c20 : a0 = 24
                                · rw [if_pos c20] at H
                                  have c20b0 : (a0 == 24) = true := beq_iff_eq.mpr c20
                                  have c20b1 : (a0 != 24) = false := bne_eq_false_iff_eq.mpr c20
                                  clear c20
                                  have H' := Aside0.mk H
                                  clear H
                                  go_wp2
                                  go_meet
                                  case rel => exact ⟨_, ((a0 == 24)), (by first | rfl | (simp; done) | (simp [*]; done)), H', ⟨by have := HJ2.out; have := HJ5.out; have := HJ13.out; first | omega | exact Nat.le_refl _⟩, by repeat (first | exact Drawn0.refl _ | apply Drawn0.step)⟩
                                · rw [if_neg c20] at H
                                  have c20b0 : (a0 == 24) = false := beq_eq_false_iff_ne.mpr c20
                                  have c20b1 : (a0 != 24) = true := bne_iff_ne.mpr c20
                                  have H' := Aside0.mk H
                                  clear H
                                  go_wp2
                                  go_meet
                                  case rel => exact ⟨_, ((a0 == 25)), (by first | rfl | (simp; done) | (simp [*]; done)), H', ⟨by have := HJ2.out; have := HJ5.out; have := HJ13.out; first | omega | exact Nat.le_refl _⟩, by repeat (first | exact Drawn0.refl _ | apply Drawn0.step)⟩
                            case rest =>
                              clear HC18
                              try clear c1
                              try clear c2
                              try clear c2b0
                              try clear c2b1
                              try clear p2
                              try clear c4
                              try clear c4b0
                              try clear c4b1
                              try clear c5
                              try clear c7
                              try clear c7b0
                              try clear c7b1
                              try clear c8
                              try clear c8b0
                              try clear c8b1
                              try clear c9
                              try clear c9b0
                              try clear c9b1
                              try clear c10
                              try clear c10b0
                              try clear c10b1
                              try clear c11
                              try clear c12
                              try clear c12b0
                              try clear c12b1
                              try clear c13
                              try clear c13b0
                              try clear c13b1
                              try clear c15
                              try clear c15b0
                              try clear c15b1
                              try clear c16
                              try clear c17
                              try clear c17b0
                              try clear c17b1
                              try clear c19
                              try clear c19b0
                              try clear c19b1
                              try clear c20
                              try clear c20b0
                              try clear c20b1
                              try clear p2
                              obtain ⟨kq, x24_17, rfl, HA, HJ17, ⟨mc17, rfl⟩⟩ := hcut
                              cases kq with
                              | zero => exact absurd HA.out (by simp [secateurref07_Shape.j3])
                              | succ kj17 =>
                                have H := HA.out
                                clear HA
                                simp only [secateurref07_Shape.j3] at H
                                by_cases c21 : x24_17 = true
                                · subst c21
                                  have H1 : (some (⟨#[97, 98, 67]⟩ : ByteArray)) = some r := by rw [if_pos rfl] at H; exact H
                                  clear H
                                  have H := H1
                                  clear H1
                                  obtain rfl := Option.some.inj H
                                  simp only [Option.some.injEq, Prod.mk.injEq] at H
                                  obtain ⟨rfl⟩ := H
                                  go_wp2
                                  go_ret
                                  exact ⟨by first | rfl | (simp; done) | (simp [*]; done), by repeat (first | exact Drawn0.refl _ | apply Drawn0.step)⟩
                                · replace c21 := Bool.eq_false_iff.mpr c21
                                  subst c21
                                  have H1 : (if a0 = 13 then (secateurref07_Shape.j4 kj17 a0 (a0 == 13)) else (secateurref07_Shape.j4 kj17 a0 (a0 == 14))) = some r := by rw [if_neg (show ¬ (false = true) by decide)] at H; exact H
                                  clear H
                                  have H := H1
                                  clear H1
                                  have HC22 := Aside0.mk H
                                  clear H
                                  go_upto_if 28 with (fail)
                                  go_cut [28] (fun v28 wc => ∃ (kq : Nat) (x28_21 : Bool), v28 = .bool x28_21 ∧ Aside0 (secateurref07_Shape.j4 kq a0 x28_21 = some r) ∧ Aside0 (kq ≤ kj17) ∧ Drawn0 w wc)
                                  case first =>
                                    have H := HC22.out
                                    clear HC22
                                    by_cases c23 : a0 = 13
                                    · rw [if_pos c23] at H
                                      have c23b0 : (a0 == 13) = true := beq_iff_eq.mpr c23
                                      have c23b1 : (a0 != 13) = false := bne_eq_false_iff_eq.mpr c23
                                      clear c23
                                      (first | rw [c23b0] | (simp only [i64_w, i32_w]; rw [c23b0]) | skip)
                                      have H' := Aside0.mk H
                                      clear H
                                      go_wp2
                                      go_meet
                                      case rel => exact ⟨_, ((a0 == 13)), (by first | rfl | (simp; done) | (simp [*]; done)), H', ⟨by have := HJ2.out; have := HJ5.out; have := HJ13.out; have := HJ17.out; first | omega | exact Nat.le_refl _⟩, by repeat (first | exact Drawn0.refl _ | apply Drawn0.step)⟩
                                    · rw [if_neg c23] at H
                                      have c23b0 : (a0 == 13) = false := beq_eq_false_iff_ne.mpr c23
                                      have c23b1 : (a0 != 13) = true := bne_iff_ne.mpr c23
                                      (first | rw [c23b0] | (simp only [i64_w, i32_w]; rw [c23b0]) | skip)
                                      have H' := Aside0.mk H
                                      clear H
                                      go_wp2
                                      go_meet
                                      case rel => exact ⟨_, ((a0 == 14)), (by first | rfl | (simp; done) | (simp [*]; done)), H', ⟨by have := HJ2.out; have := HJ5.out; have := HJ13.out; have := HJ17.out; first | omega | exact Nat.le_refl _⟩, by repeat (first | exact Drawn0.refl _ | apply Drawn0.step)⟩
                                  case rest =>
                                    clear HC22
                                    try clear c1
                                    try clear c2
                                    try clear c2b0
                                    try clear c2b1
                                    try clear p2
                                    try clear c4
                                    try clear c4b0
                                    try clear c4b1
                                    try clear c5
                                    try clear c7
                                    try clear c7b0
                                    try clear c7b1
                                    try clear c8
                                    try clear c8b0
                                    try clear c8b1
                                    try clear c9
                                    try clear c9b0
                                    try clear c9b1
                                    try clear c10
                                    try clear c10b0
                                    try clear c10b1
                                    try clear c11
                                    try clear c12
                                    try clear c12b0
                                    try clear c12b1
                                    try clear c13
                                    try clear c13b0
                                    try clear c13b1
                                    try clear c15
                                    try clear c15b0
                                    try clear c15b1
                                    try clear c16
                                    try clear c17
                                    try clear c17b0
                                    try clear c17b1
                                    try clear c19
                                    try clear c19b0
                                    try clear c19b1
                                    try clear c20
                                    try clear c20b0
                                    try clear c20b1
                                    try clear c21
                                    try clear c23
                                    try clear c23b0
                                    try clear c23b1
                                    try clear p2
                                    obtain ⟨kq, x28_21, rfl, HA, HJ21, ⟨mc21, rfl⟩⟩ := hcut
                                    cases kq with
                                    | zero => exact absurd HA.out (by simp [secateurref07_Shape.j4])
                                    | succ kj21 =>
                                      have H := HA.out
                                      clear HA
                                      simp only [secateurref07_Shape.j4] at H
                                      by_cases c24 : x28_21 = true
                                      · subst c24
                                        have H1 : (some (⟨#[97, 98, 99]⟩ : ByteArray)) = some r := by rw [if_pos rfl] at H; exact H
                                        clear H
                                        have H := H1
                                        clear H1
                                        obtain rfl := Option.some.inj H
                                        simp only [Option.some.injEq, Prod.mk.injEq] at H
                                        obtain ⟨rfl⟩ := H
                                        go_wp2
                                        go_ret
                                        exact ⟨by first | rfl | (simp; done) | (simp [*]; done), by repeat (first | exact Drawn0.refl _ | apply Drawn0.step)⟩
                                      · replace c24 := Bool.eq_false_iff.mpr c24
                                        subst c24
                                        have H1 : (if a0 = 15 then (some (⟨#[97, 98, 70]⟩ : ByteArray)) else (if a0 = 16 then (some (⟨#[98, 99, 70]⟩ : ByteArray)) else (if a0 = 17 then (some (⟨#[97, 70]⟩ : ByteArray)) else (if a0 = 18 then (some (⟨#[99, 70]⟩ : ByteArray)) else (if a0 = 19 then (secateurref07_Shape.j5 kj21 a0 (a0 == 19)) else (if a0 = 20 then (secateurref07_Shape.j5 kj21 a0 (a0 == 20)) else (secateurref07_Shape.j5 kj21 a0 (a0 == 21)))))))) = some r := by rw [if_neg (show ¬ (false = true) by decide)] at H; exact H
                                        clear H
                                        have H := H1
                                        clear H1
                                        by_cases c25 : a0 = 15
                                        · rw [if_pos c25] at H
                                          have c25b0 : (a0 == 15) = true := beq_iff_eq.mpr c25
                                          have c25b1 : (a0 != 15) = false := bne_eq_false_iff_eq.mpr c25
                                          clear c25
                                          obtain rfl := Option.some.inj H
                                          simp only [Option.some.injEq, Prod.mk.injEq] at H
                                          obtain ⟨rfl⟩ := H
                                          go_wp2
                                          go_ret
                                          exact ⟨by first | rfl | (simp; done) | (simp [*]; done), by repeat (first | exact Drawn0.refl _ | apply Drawn0.step)⟩
                                        · rw [if_neg c25] at H
                                          have c25b0 : (a0 == 15) = false := beq_eq_false_iff_ne.mpr c25
                                          have c25b1 : (a0 != 15) = true := bne_iff_ne.mpr c25
                                          by_cases c26 : a0 = 16
                                          · rw [if_pos c26] at H
                                            have c26b0 : (a0 == 16) = true := beq_iff_eq.mpr c26
                                            have c26b1 : (a0 != 16) = false := bne_eq_false_iff_eq.mpr c26
                                            clear c26
                                            obtain rfl := Option.some.inj H
                                            simp only [Option.some.injEq, Prod.mk.injEq] at H
                                            obtain ⟨rfl⟩ := H
                                            go_wp2
                                            go_ret
                                            exact ⟨by first | rfl | (simp; done) | (simp [*]; done), by repeat (first | exact Drawn0.refl _ | apply Drawn0.step)⟩
                                          · rw [if_neg c26] at H
                                            have c26b0 : (a0 == 16) = false := beq_eq_false_iff_ne.mpr c26
                                            have c26b1 : (a0 != 16) = true := bne_iff_ne.mpr c26
                                            by_cases c27 : a0 = 17
                                            · rw [if_pos c27] at H
                                              have c27b0 : (a0 == 17) = true := beq_iff_eq.mpr c27
                                              have c27b1 : (a0 != 17) = false := bne_eq_false_iff_eq.mpr c27
                                              clear c27
                                              obtain rfl := Option.some.inj H
                                              simp only [Option.some.injEq, Prod.mk.injEq] at H
                                              obtain ⟨rfl⟩ := H
                                              go_wp2
                                              go_ret
                                              exact ⟨by first | rfl | (simp; done) | (simp [*]; done), by repeat (first | exact Drawn0.refl _ | apply Drawn0.step)⟩
                                            · rw [if_neg c27] at H
                                              have c27b0 : (a0 == 17) = false := beq_eq_false_iff_ne.mpr c27
                                              have c27b1 : (a0 != 17) = true := bne_iff_ne.mpr c27
                                              by_cases c28 : a0 = 18
                                              · rw [if_pos c28] at H
                                                have c28b0 : (a0 == 18) = true := beq_iff_eq.mpr c28
                                                have c28b1 : (a0 != 18) = false := bne_eq_false_iff_eq.mpr c28
                                                clear c28
                                                obtain rfl := Option.some.inj H
                                                simp only [Option.some.injEq, Prod.mk.injEq] at H
                                                obtain ⟨rfl⟩ := H
                                                go_wp2
                                                go_ret
                                                exact ⟨by first | rfl | (simp; done) | (simp [*]; done), by repeat (first | exact Drawn0.refl _ | apply Drawn0.step)⟩
                                              · rw [if_neg c28] at H
                                                have c28b0 : (a0 == 18) = false := beq_eq_false_iff_ne.mpr c28
                                                have c28b1 : (a0 != 18) = true := bne_iff_ne.mpr c28
                                                have HC29 := Aside0.mk H
                                                clear H
                                                go_upto_if 39 with (fail)
                                                go_cut [39] (fun v39 wc => ∃ (kq : Nat) (x39_28 : Bool), v39 = .bool x39_28 ∧ Aside0 (secateurref07_Shape.j5 kq a0 x39_28 = some r) ∧ Aside0 (kq ≤ kj21) ∧ Drawn0 w wc)
                                                case first =>
                                                  have H := HC29.out
                                                  clear HC29
                                                  by_cases c30 : a0 = 19
                                                  · rw [if_pos c30] at H
                                                    have c30b0 : (a0 == 19) = true := beq_iff_eq.mpr c30
                                                    have c30b1 : (a0 != 19) = false := bne_eq_false_iff_eq.mpr c30
                                                    clear c30
                                                    (first | rw [c30b0] | (simp only [i64_w, i32_w]; rw [c30b0]) | skip)
                                                    have H' := Aside0.mk H
                                                    clear H
                                                    go_wp2
                                                    go_meet
                                                    case rel => exact ⟨_, ((a0 == 19)), (by first | rfl | (simp; done) | (simp [*]; done)), H', ⟨by have := HJ2.out; have := HJ5.out; have := HJ13.out; have := HJ17.out; have := HJ21.out; first | omega | exact Nat.le_refl _⟩, by repeat (first | exact Drawn0.refl _ | apply Drawn0.step)⟩
                                                  · rw [if_neg c30] at H
                                                    have c30b0 : (a0 == 19) = false := beq_eq_false_iff_ne.mpr c30
                                                    have c30b1 : (a0 != 19) = true := bne_iff_ne.mpr c30
                                                    (first | rw [c30b0] | (simp only [i64_w, i32_w]; rw [c30b0]) | skip)
                                                    by_cases c31 : a0 = 20
                                                    · rw [if_pos c31] at H
                                                      have c31b0 : (a0 == 20) = true := beq_iff_eq.mpr c31
                                                      have c31b1 : (a0 != 20) = false := bne_eq_false_iff_eq.mpr c31
                                                      clear c31
                                                      have H' := Aside0.mk H
                                                      clear H
                                                      go_wp2
                                                      go_meet
                                                      case rel => exact ⟨_, ((a0 == 20)), (by first | rfl | (simp; done) | (simp [*]; done)), H', ⟨by have := HJ2.out; have := HJ5.out; have := HJ13.out; have := HJ17.out; have := HJ21.out; first | omega | exact Nat.le_refl _⟩, by repeat (first | exact Drawn0.refl _ | apply Drawn0.step)⟩
                                                    · rw [if_neg c31] at H
                                                      have c31b0 : (a0 == 20) = false := beq_eq_false_iff_ne.mpr c31
                                                      have c31b1 : (a0 != 20) = true := bne_iff_ne.mpr c31
                                                      have H' := Aside0.mk H
                                                      clear H
                                                      go_wp2
                                                      go_meet
                                                      case rel => exact ⟨_, ((a0 == 21)), (by first | rfl | (simp; done) | (simp [*]; done)), H', ⟨by have := HJ2.out; have := HJ5.out; have := HJ13.out; have := HJ17.out; have := HJ21.out; first | omega | exact Nat.le_refl _⟩, by repeat (first | exact Drawn0.refl _ | apply Drawn0.step)⟩
                                                case rest =>
                                                  clear HC29
                                                  try clear c1
                                                  try clear c2
                                                  try clear c2b0
                                                  try clear c2b1
                                                  try clear p2
                                                  try clear c3
                                                  try clear c4
                                                  try clear c4b0
                                                  try clear c4b1
                                                  try clear c5
                                                  try clear c7
                                                  try clear c7b0
                                                  try clear c7b1
                                                  try clear c8
                                                  try clear c8b0
                                                  try clear c8b1
                                                  try clear c9
                                                  try clear c9b0
                                                  try clear c9b1
                                                  try clear c10
                                                  try clear c10b0
                                                  try clear c10b1
                                                  try clear c11
                                                  try clear c12
                                                  try clear c12b0
                                                  try clear c12b1
                                                  try clear c13
                                                  try clear c13b0
                                                  try clear c13b1
                                                  try clear c15
                                                  try clear c15b0
                                                  try clear c15b1
                                                  try clear c16
                                                  try clear c17
                                                  try clear c17b0
                                                  try clear c17b1
                                                  try clear c19
                                                  try clear c19b0
                                                  try clear c19b1
                                                  try clear c20
                                                  try clear c20b0
                                                  try clear c20b1
                                                  try clear c21
                                                  try clear c23
                                                  try clear c23b0
                                                  try clear c23b1
                                                  try clear c24
                                                  try clear c25
                                                  try clear c25b0
                                                  try clear c25b1
                                                  try clear c26
                                                  try clear c26b0
                                                  try clear c26b1
                                                  try clear c27
                                                  try clear c27b0
                                                  try clear c27b1
                                                  try clear c28
                                                  try clear c28b0
                                                  try clear c28b1
                                                  try clear c30
                                                  try clear c30b0
                                                  try clear c30b1
                                                  try clear c31
                                                  try clear c31b0
                                                  try clear c31b1
                                                  try clear p2
                                                  obtain ⟨kq, x39_28, rfl, HA, HJ28, ⟨mc28, rfl⟩⟩ := hcut
                                                  cases kq with
                                                  | zero => exact absurd HA.out (by simp [secateurref07_Shape.j5])
                                                  | succ kj28 =>
                                                    have H := HA.out
                                                    clear HA
                                                    simp only [secateurref07_Shape.j5] at H
                                                    by_cases c32 : x39_28 = true
                                                    · subst c32
                                                      have H1 : (some (⟨#[97, 77, 118]⟩ : ByteArray)) = some r := by rw [if_pos rfl] at H; exact H
                                                      clear H
                                                      have H := H1
                                                      clear H1
                                                      obtain rfl := Option.some.inj H
                                                      simp only [Option.some.injEq, Prod.mk.injEq] at H
                                                      obtain ⟨rfl⟩ := H
                                                      go_wp2
                                                      go_ret
                                                      exact ⟨by first | rfl | (simp; done) | (simp [*]; done), by repeat (first | exact Drawn0.refl _ | apply Drawn0.step)⟩
                                                    · replace c32 := Bool.eq_false_iff.mpr c32
                                                      subst c32
                                                      have H1 : (if a0 = 22 then (secateurref07_Shape.j6 kj28 a0 (a0 == 22)) else (if a0 = 27 then (secateurref07_Shape.j6 kj28 a0 (a0 == 27)) else (secateurref07_Shape.j6 kj28 a0 (a0 == 31)))) = some r := by rw [if_neg (show ¬ (false = true) by decide)] at H; exact H
                                                      clear H
                                                      have H := H1
                                                      clear H1
                                                      have HC33 := Aside0.mk H
                                                      clear H
                                                      go_upto_if 43 with (fail)
                                                      go_cut [43] (fun v43 wc => ∃ (kq : Nat) (x43_32 : Bool), v43 = .bool x43_32 ∧ Aside0 (secateurref07_Shape.j6 kq a0 x43_32 = some r) ∧ Aside0 (kq ≤ kj28) ∧ Drawn0 w wc)
                                                      case first =>
                                                        have H := HC33.out
                                                        clear HC33
                                                        by_cases c34 : a0 = 22
                                                        · rw [if_pos c34] at H
                                                          have c34b0 : (a0 == 22) = true := beq_iff_eq.mpr c34
                                                          have c34b1 : (a0 != 22) = false := bne_eq_false_iff_eq.mpr c34
                                                          clear c34
                                                          (first | rw [c34b0] | (simp only [i64_w, i32_w]; rw [c34b0]) | skip)
                                                          have H' := Aside0.mk H
                                                          clear H
                                                          go_wp2
                                                          go_meet
                                                          case rel => exact ⟨_, ((a0 == 22)), (by first | rfl | (simp; done) | (simp [*]; done)), H', ⟨by have := HJ2.out; have := HJ5.out; have := HJ13.out; have := HJ17.out; have := HJ21.out; have := HJ28.out; first | omega | exact Nat.le_refl _⟩, by repeat (first | exact Drawn0.refl _ | apply Drawn0.step)⟩
                                                        · rw [if_neg c34] at H
                                                          have c34b0 : (a0 == 22) = false := beq_eq_false_iff_ne.mpr c34
                                                          have c34b1 : (a0 != 22) = true := bne_iff_ne.mpr c34
                                                          (first | rw [c34b0] | (simp only [i64_w, i32_w]; rw [c34b0]) | skip)
                                                          by_cases c35 : a0 = 27
                                                          · rw [if_pos c35] at H
                                                            have c35b0 : (a0 == 27) = true := beq_iff_eq.mpr c35
                                                            have c35b1 : (a0 != 27) = false := bne_eq_false_iff_eq.mpr c35
                                                            clear c35
                                                            have H' := Aside0.mk H
                                                            clear H
                                                            go_wp2
                                                            go_meet
                                                            case rel => exact ⟨_, ((a0 == 27)), (by first | rfl | (simp; done) | (simp [*]; done)), H', ⟨by have := HJ2.out; have := HJ5.out; have := HJ13.out; have := HJ17.out; have := HJ21.out; have := HJ28.out; first | omega | exact Nat.le_refl _⟩, by repeat (first | exact Drawn0.refl _ | apply Drawn0.step)⟩
                                                          · rw [if_neg c35] at H
                                                            have c35b0 : (a0 == 27) = false := beq_eq_false_iff_ne.mpr c35
                                                            have c35b1 : (a0 != 27) = true := bne_iff_ne.mpr c35
                                                            have H' := Aside0.mk H
                                                            clear H
                                                            go_wp2
                                                            go_meet
                                                            case rel => exact ⟨_, ((a0 == 31)), (by first | rfl | (simp; done) | (simp [*]; done)), H', ⟨by have := HJ2.out; have := HJ5.out; have := HJ13.out; have := HJ17.out; have := HJ21.out; have := HJ28.out; first | omega | exact Nat.le_refl _⟩, by repeat (first | exact Drawn0.refl _ | apply Drawn0.step)⟩
                                                      case rest =>
                                                        clear HC33
                                                        try clear c1
                                                        try clear c2
                                                        try clear c2b0
                                                        try clear c2b1
                                                        try clear p2
                                                        try clear c3
                                                        try clear c4
                                                        try clear c4b0
                                                        try clear c4b1
                                                        try clear c5
                                                        try clear c7
                                                        try clear c7b0
                                                        try clear c7b1
                                                        try clear c8
                                                        try clear c8b0
                                                        try clear c8b1
                                                        try clear c9
                                                        try clear c9b0
                                                        try clear c9b1
                                                        try clear c10
                                                        try clear c10b0
                                                        try clear c10b1
                                                        try clear c11
                                                        try clear c12
                                                        try clear c12b0
                                                        try clear c12b1
                                                        try clear c13
                                                        try clear c13b0
                                                        try clear c13b1
                                                        try clear c15
                                                        try clear c15b0
                                                        try clear c15b1
                                                        try clear c16
                                                        try clear c17
                                                        try clear c17b0
                                                        try clear c17b1
                                                        try clear c19
                                                        try clear c19b0
                                                        try clear c19b1
                                                        try clear c20
                                                        try clear c20b0
                                                        try clear c20b1
                                                        try clear c21
                                                        try clear c23
                                                        try clear c23b0
                                                        try clear c23b1
                                                        try clear c24
                                                        try clear c25
                                                        try clear c25b0
                                                        try clear c25b1
                                                        try clear c26
                                                        try clear c26b0
                                                        try clear c26b1
                                                        try clear c27
                                                        try clear c27b0
                                                        try clear c27b1
                                                        try clear c28
                                                        try clear c28b0
                                                        try clear c28b1
                                                        try clear c30
                                                        try clear c30b0
                                                        try clear c30b1
                                                        try clear c31
                                                        try clear c31b0
                                                        try clear c31b1
                                                        try clear c32
                                                        try clear c34
                                                        try clear c34b0
                                                        try clear c34b1
                                                        try clear c35
                                                        try clear c35b0
                                                        try clear c35b1
                                                        try clear p2
                                                        obtain ⟨kq, x43_32, rfl, HA, HJ32, ⟨mc32, rfl⟩⟩ := hcut
                                                        cases kq with
                                                        | zero => exact absurd HA.out (by simp [secateurref07_Shape.j6])
                                                        | succ kj32 =>
                                                          have H := HA.out
                                                          clear HA
                                                          simp only [secateurref07_Shape.j6] at H
                                                          by_cases c36 : x43_32 = true
                                                          · subst c36
                                                            have H1 : (some (⟨#[98]⟩ : ByteArray)) = some r := by rw [if_pos rfl] at H; exact H
                                                            clear H
                                                            have H := H1
                                                            clear H1
                                                            obtain rfl := Option.some.inj H
                                                            simp only [Option.some.injEq, Prod.mk.injEq] at H
                                                            obtain ⟨rfl⟩ := H
                                                            go_wp2
                                                            go_ret
                                                            exact ⟨by first | rfl | (simp; done) | (simp [*]; done), by repeat (first | exact Drawn0.refl _ | apply Drawn0.step)⟩
                                                          · replace c36 := Bool.eq_false_iff.mpr c36
                                                            subst c36
                                                            have H1 : (if a0 = 30 then (some (⟨#[107]⟩ : ByteArray)) else (if a0 = 32 then (some (⟨#[67]⟩ : ByteArray)) else (some (⟨#[]⟩ : ByteArray)))) = some r := by rw [if_neg (show ¬ (false = true) by decide)] at H; exact H
                                                            clear H
                                                            have H := H1
                                                            clear H1
                                                            by_cases c37 : a0 = 30
                                                            · rw [if_pos c37] at H
                                                              have c37b0 : (a0 == 30) = true := beq_iff_eq.mpr c37
                                                              have c37b1 : (a0 != 30) = false := bne_eq_false_iff_eq.mpr c37
                                                              clear c37
                                                              obtain rfl := Option.some.inj H
                                                              simp only [Option.some.injEq, Prod.mk.injEq] at H
                                                              obtain ⟨rfl⟩ := H
                                                              go_wp2
                                                              go_ret
                                                              exact ⟨by first | rfl | (simp; done) | (simp [*]; done), by repeat (first | exact Drawn0.refl _ | apply Drawn0.step)⟩
                                                            · rw [if_neg c37] at H
                                                              have c37b0 : (a0 == 30) = false := beq_eq_false_iff_ne.mpr c37
                                                              have c37b1 : (a0 != 30) = true := bne_iff_ne.mpr c37
                                                              by_cases c38 : a0 = 32
                                                              · rw [if_pos c38] at H
                                                                have c38b0 : (a0 == 32) = true := beq_iff_eq.mpr c38
                                                                have c38b1 : (a0 != 32) = false := bne_eq_false_iff_eq.mpr c38
                                                                clear c38
                                                                obtain rfl := Option.some.inj H
                                                                simp only [Option.some.injEq, Prod.mk.injEq] at H
                                                                obtain ⟨rfl⟩ := H
                                                                go_wp2
                                                                go_ret
                                                                exact ⟨by first | rfl | (simp; done) | (simp [*]; done), by repeat (first | exact Drawn0.refl _ | apply Drawn0.step)⟩
                                                              · rw [if_neg c38] at H
                                                                have c38b0 : (a0 == 32) = false := beq_eq_false_iff_ne.mpr c38
                                                                have c38b1 : (a0 != 32) = true := bne_iff_ne.mpr c38
                                                                obtain rfl := Option.some.inj H
                                                                simp only [Option.some.injEq, Prod.mk.injEq] at H
                                                                obtain ⟨rfl⟩ := H
                                                                go_wp2
                                                                go_ret
                                                                exact ⟨by first | rfl | (simp; done) | (simp [*]; done), by repeat (first | exact Drawn0.refl _ | apply Drawn0.step)⟩

end Go.Proofs.YtmamaijiphdggaaDoor.POp
