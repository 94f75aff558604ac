/- Part of a proof of this seat's statements: plain functions, contracts and rows, written by a program (the kit's printer, some functions given by hand) out of the translation; no conditions of its own. -/
import Derived.Test.YtmamaijiphdggaaDoorPOpx0
import Derived.Test.YtmamaijiphdggaaDoorPOpx1
import Derived.Test.YtmamaijiphdggaaDoorPOpx2
namespace Go.Proofs.YtmamaijiphdggaaDoor.POp
open Go.RowKit Go.Proofs.YtmamaijiphdggaaDoor.Given Go.Proofs.YtmamaijiphdggaaDoorW.PrintWords Go.Proofs.YtmamaijiphdggaaDoorW.PrintLast Go.Proofs.YtmamaijiphdggaaDoorW.PrintMore
attribute [local go_sem] max2_int min2_int max_two min_two max_three min_three max_four min_four   -- for this text's walks alone
set_option linter.unusedVariables false
set_option linter.unusedSimpArgs false

/-! ### secateurref01_SameInts: function 28 -/
def secateurref01_SameInts.l0 : Nat → List Int → List Int → Int → Option (Bool)
  | 0, _, _, _ => none
  | k + 1, x0, x1, x5 => if x5 < (x0.length : Int) then (if 0 ≤ x5 then (if x5 < (x1.length : Int) then (if (rd x0 x5) = (rd x1 x5) then (secateurref01_SameInts.l0 k x0 x1 (wrap64 (x5 + 1))) else (some false)) else (none)) else (none)) else (some true)
def secateurref01_SameInts.f (k : Nat) (l0 : List Int) (l1 : List Int) : Option (Bool) := if (l0.length : Int) = (l1.length : Int) then (secateurref01_SameInts.l0 k l0 l1 0) else (some false)
theorem secateurref01_SameInts.mono_l : ∀ k, (∀ y0 y1 y2, LeO (secateurref01_SameInts.l0 k y0 y1 y2) (secateurref01_SameInts.l0 (k + 1) y0 y1 y2))
  | 0 => fun _ _ _ r h => by simp [secateurref01_SameInts.l0] at h
  | k + 1 => by
    have ih0 := secateurref01_SameInts.mono_l k
    · intro y0 y1 y2
      unfold secateurref01_SameInts.l0
      repeat' first
      | (with_reducible exact ih0 _ _ _)
      | (with_reducible exact LeO.refl _)
      | (with_reducible exact LeO.none _)
      | (with_reducible refine LeO.ite ?_ ?_)
      | (with_reducible refine LeO.bind ?_ (fun _ => ?_))
      | exact ih0 _ _ _
      | exact LeO.none _
      | refine LeO.ite ?_ ?_
      | refine LeO.bind ?_ (fun _ => ?_)
theorem secateurref01_SameInts.mono : ∀ a0 a1 k, LeO (secateurref01_SameInts.f k a0 a1) (secateurref01_SameInts.f (k + 1) a0 a1) := by
  intro a0 a1 k
  have ih0 := secateurref01_SameInts.mono_l k
  unfold secateurref01_SameInts.f
  repeat' first
      | (with_reducible exact ih0 _ _ _)
      | (with_reducible exact LeO.refl _)
      | (with_reducible exact LeO.none _)
      | (with_reducible refine LeO.ite ?_ ?_)
      | (with_reducible refine LeO.bind ?_ (fun _ => ?_))
      | exact ih0 _ _ _
      | exact LeO.none _
      | refine LeO.ite ?_ ?_
      | refine LeO.bind ?_ (fun _ => ?_)
set_option maxHeartbeats 8000000 in
set_option maxRecDepth 100000 in
theorem secateurref01_SameInts.calls (k : Nat) (A0 : Option Addr) (c0 : Nat) (l0 : List Int) (A1 : Option Addr) (c1 : Nat) (l1 : List Int) (r : Bool) (w : World) (hr0 : Kd.C (Kd.int .i64) w A0 l0.length l0) (hc0 : l0.length ≤ c0) (hr1 : Kd.C (Kd.int .i64) w A1 l1.length l1) (hc1 : l1.length ≤ c1) (h : secateurref01_SameInts.f k l0 l1 = some r) :
    Calls Tryd.prog 28 #[.slice A0 l0.length c0, .slice A1 l1.length c1] w fun e w' => e = .returned (.bool r) ∧ Drawn0 w w' := by
  have HR0 := Aside0.mk hr0
  have HC0 := Aside0.mk hc0
  clear hr0 hc0
  have HR1 := Aside0.mk hr1
  have HC1 := Aside0.mk hc1
  clear hr1 hc1
  have H : (if (l0.length : Int) = (l1.length : Int) then (secateurref01_SameInts.l0 k l0 l1 0) else (some false)) = some r := h
  clear h
  by_cases c3 : (l0.length : Int) = (l1.length : Int)
  · rw [if_pos c3] at H
    have c3b0 : ((l0.length : Int) == (l1.length : Int)) = true := beq_iff_eq.mpr c3
    have c3b1 : ((l0.length : Int) != (l1.length : Int)) = false := bne_eq_false_iff_eq.mpr c3
    have c3b2 : (l0.length == l1.length) = true := by first | simpa using c3 | (simp at c3 ⊢; omega)
    clear c3
    have H' := Aside0.mk H
    clear H
    go_enter Tryd.func28, Tryd.ntmps28
    go_wp2
    repeat (go_quiet (fail); try go_wp2)
    go_loopg [5] k (fun kq v5 w' => ∃ (x5_1 : Int), v5 = .int .i64 x5_1 ∧ Aside0 (secateurref01_SameInts.l0 kq l0 l1 x5_1 = some r) ∧ Aside0 (kq ≤ k) ∧ Drawn0 w w')
    case atStart => exact ⟨(0), (by first | rfl | (simp; done) | (simp [*]; done)), H', ⟨Nat.le_refl _⟩, by repeat (first | exact Drawn0.refl _ | apply Drawn0.step)⟩
    case round =>
      clear H'
      try clear c1
      try clear c2
      try clear p2
      try clear c3
      try clear c3b0
      try clear c3b1
      try clear c3b2
      obtain ⟨x5_1, rfl, HA, HK1, ⟨m1, rfl⟩⟩ := hrel
      cases gk with
      | zero => exact absurd HA.out (by simp [secateurref01_SameInts.l0])
      | succ k1 =>
        have H := HA.out
        clear HA
        simp only [secateurref01_SameInts.l0] at H
        by_cases c4 : x5_1 < (l0.length : Int)
        · rw [if_pos c4] at H
          have c4b0 : decide (x5_1 < (l0.length : Int)) = true := decide_eq_true c4
          clear c4
          by_cases c5 : 0 ≤ x5_1
          · rw [if_pos c5] at H
            have c5b0 : decide (0 ≤ x5_1) = true := decide_eq_true c5
            clear c5
            by_cases c6 : x5_1 < (l1.length : Int)
            · rw [if_pos c6] at H
              have c6b0 : decide (x5_1 < (l1.length : Int)) = true := decide_eq_true c6
              clear c6
              by_cases c7 : (rd l0 x5_1) = (rd l1 x5_1)
              · rw [if_pos c7] at H
                have c7b0 : ((rd l0 x5_1) == (rd l1 x5_1)) = true := beq_iff_eq.mpr c7
                have c7b1 : ((rd l0 x5_1) != (rd l1 x5_1)) = false := bne_eq_false_iff_eq.mpr c7
                clear c7
                have H' := Aside0.mk H
                clear H
                have p138 : 0 ≤ (x5_1 : Int) := of_decide_eq_true (by first | (with_reducible assumption) | assumption)
                have q138 : x5_1 < (l0.length : Int) := of_decide_eq_true (by first | (with_reducible assumption) | assumption)
                obtain ⟨ad138, e138, hx138_0⟩ := Kd.at_int HR0.out x5_1 p138 q138
                cases e138
                replace p138 := eq_true p138
                replace q138 := eq_true q138
                have p139 : 0 ≤ (x5_1 : Int) := of_decide_eq_true (by first | (with_reducible assumption) | assumption)
                have q139 : x5_1 < (l1.length : Int) := of_decide_eq_true (by first | (with_reducible assumption) | assumption)
                obtain ⟨ad139, e139, hx139_0⟩ := Kd.at_int HR1.out x5_1 p139 q139
                cases e139
                replace p139 := eq_true p139
                replace q139 := eq_true q139
                go_wp2
                repeat (go_quiet (fail); try go_wp2)
                go_roundg k1
                case measure => have := HK1.out; omega
                case rel => exact ⟨(wrap64 (x5_1 + 1)), (by first | rfl | (simp; done) | (simp [*]; done)), H', ⟨by have := HK1.out; omega⟩, by repeat (first | exact Drawn0.refl _ | apply Drawn0.step)⟩
              · rw [if_neg c7] at H
                have c7b0 : ((rd l0 x5_1) == (rd l1 x5_1)) = false := beq_eq_false_iff_ne.mpr c7
                have c7b1 : ((rd l0 x5_1) != (rd l1 x5_1)) = true := bne_iff_ne.mpr c7
                obtain rfl := Option.some.inj H
                simp only [Option.some.injEq, Prod.mk.injEq] at H
                obtain ⟨rfl⟩ := H
                have p138 : 0 ≤ (x5_1 : Int) := of_decide_eq_true (by first | (with_reducible assumption) | assumption)
                have q138 : x5_1 < (l0.length : Int) := of_decide_eq_true (by first | (with_reducible assumption) | assumption)
                obtain ⟨ad138, e138, hx138_0⟩ := Kd.at_int HR0.out x5_1 p138 q138
                cases e138
                replace p138 := eq_true p138
                replace q138 := eq_true q138
                have p139 : 0 ≤ (x5_1 : Int) := of_decide_eq_true (by first | (with_reducible assumption) | assumption)
                have q139 : x5_1 < (l1.length : Int) := of_decide_eq_true (by first | (with_reducible assumption) | assumption)
                obtain ⟨ad139, e139, hx139_0⟩ := Kd.at_int HR1.out x5_1 p139 q139
                cases e139
                replace p139 := eq_true p139
                replace q139 := eq_true q139
                go_wp2
                repeat (go_quiet (fail); try go_wp2)
                go_ret
                exact ⟨by first | rfl | (simp; done) | (simp [*]; done), by repeat (first | exact Drawn0.refl _ | apply Drawn0.step)⟩
            · rw [if_neg c6] at H
              exact absurd H (by simp)
          · rw [if_neg c5] at H
            exact absurd H (by simp)
        · rw [if_neg c4] at H
          have c4b0 : decide (x5_1 < (l0.length : Int)) = false := decide_eq_false c4
          clear c4
          obtain rfl := Option.some.inj H
          simp only [Option.some.injEq, Prod.mk.injEq] at H
          obtain ⟨rfl⟩ := H
          go_wp2
          repeat (go_quiet (fail); try go_wp2)
          go_ret
          exact ⟨by first | rfl | (simp; done) | (simp [*]; done), by repeat (first | exact Drawn0.refl _ | apply Drawn0.step)⟩
  · rw [if_neg c3] at H
    have c3b0 : ((l0.length : Int) == (l1.length : Int)) = false := beq_eq_false_iff_ne.mpr c3
    have c3b1 : ((l0.length : Int) != (l1.length : Int)) = true := bne_iff_ne.mpr c3
    have c3b2 : (l0.length == l1.length) = false := by first | simpa using c3 | (simp at c3 ⊢; omega)
    obtain rfl := Option.some.inj H
    simp only [Option.some.injEq, Prod.mk.injEq] at H
    obtain ⟨rfl⟩ := H
    go_enter Tryd.func28, Tryd.ntmps28
    go_wp2
    repeat (go_quiet (fail); try go_wp2)
    go_ret
    exact ⟨by first | rfl | (simp; done) | (simp [*]; done), by repeat (first | exact Drawn0.refl _ | apply Drawn0.step)⟩

/-! ### secateurlaw07_live: function 16 -/
def secateurlaw07_live.g (k : Nat)  : Option (Bool) := (some (([0, 1] : List Int) : List Int)).bind fun y140 => ((op_Sets.f k 4 2 1 0 0 (⟨#[]⟩ : ByteArray) (⟨#[]⟩ : ByteArray) (⟨#[]⟩ : ByteArray) ([] : List Int)).bind fun bt144 => ((op_Sets.f k 20 0 0 0 0 (⟨#[65]⟩ : ByteArray) (⟨#[109]⟩ : ByteArray) (⟨#[40, 73, 41, 86]⟩ : ByteArray) y140).bind fun bt146 => ((op_Target.f 7 0 1 0 4 (⟨#[]⟩ : ByteArray) (⟨#[]⟩ : ByteArray) (⟨#[]⟩ : ByteArray) ([] : List Int)).bind fun bt148 => ((op_Fits.f 20 0 0 0 0 (⟨#[65]⟩ : ByteArray) (⟨#[109]⟩ : ByteArray) (⟨#[40, 73, 41, 86]⟩ : ByteArray) y140 2 1).bind fun t150 => (if t150 = 0 then ((op_Fits.f 6 0 0 0 5 (⟨#[]⟩ : ByteArray) (⟨#[]⟩ : ByteArray) (⟨#[]⟩ : ByteArray) ([] : List Int) 0 5).bind fun t151 => (if t151 = 12 then ((op_Shape.f 14).bind fun t152 => (if t152.toList = ([97, 98, 99] : List UInt8) then (if bt144.1 = 2 then (if bt144.2 = true then (if bt146.2 = true then (some false) else (if bt148.1 = 4 then (if bt148.2 = true then ((op_Falls.f 1).bind fun t153 => (if t153 = true then ((op_Falls.f 30).bind fun t154 => (if t154 = true then (some false) else ((op_Uses.f k 20 0 0 0 0 (⟨#[65]⟩ : ByteArray) (⟨#[109]⟩ : ByteArray) (⟨#[40, 73, 41, 86]⟩ : ByteArray) y140).bind fun t155 => ((secateurref01_SameInts.f k t155 (([0, 1] : List Int))).bind fun t161 => (if t161 = true then ((op_IsCall.f 20).bind fun t162 => (if t162 = true then ((op_Same.f k 20 0 0 0 0 (⟨#[65]⟩ : ByteArray) (⟨#[109]⟩ : ByteArray) (⟨#[40, 73, 41, 86]⟩ : ByteArray) y140 20 0 0 0 0 (⟨#[65]⟩ : ByteArray) (⟨#[109]⟩ : ByteArray) (⟨#[40, 73, 41, 86]⟩ : ByteArray) y140).bind fun t163 => (some t163)) else (some false))) else (some false)))))) else (some false))) else (some false)) else (some false))) else (some false)) else (some false)) else (some false))) else (some false))) else (some false))))))
theorem secateurlaw07_live.gmono : ∀ k, LeO (secateurlaw07_live.g k ) (secateurlaw07_live.g (k + 1) ) := by
  intro  k
  unfold secateurlaw07_live.g
  repeat' first
      | (with_reducible exact op_Same.mono _ _ _ _ _ _ _ _ _ _ _ _ _ _ _ _ _ _ _)
      | (with_reducible exact op_Sets.mono _ _ _ _ _ _ _ _ _ _)
      | (with_reducible exact op_Uses.mono _ _ _ _ _ _ _ _ _ _)
      | (with_reducible exact secateurref01_SameInts.mono _ _ _)
      | (with_reducible exact LeO.refl _)
      | (with_reducible exact LeO.none _)
      | (with_reducible refine LeO.ite ?_ ?_)
      | (with_reducible refine LeO.bind ?_ (fun _ => ?_))
      | exact op_Same.mono _ _ _ _ _ _ _ _ _ _ _ _ _ _ _ _ _ _ _
      | exact op_Sets.mono _ _ _ _ _ _ _ _ _ _
      | exact op_Uses.mono _ _ _ _ _ _ _ _ _ _
      | exact secateurref01_SameInts.mono _ _ _
      | exact LeO.none _
      | refine LeO.ite ?_ ?_
      | refine LeO.bind ?_ (fun _ => ?_)
set_option maxHeartbeats 8000000 in
set_option maxRecDepth 100000 in
theorem secateurlaw07_live.gcalls (k : Nat)  (r : Bool) (w : World) (hG : GW w) (h : secateurlaw07_live.g k  = some r) (hrt : r = true) :
    Calls Tryd.prog 16 #[] w fun e w' => e = .returned (.bool r) ∧ Below w.heap.size w w' := by
  have hu44 := Tryd.underlying44
  have HRT := Aside0.mk hrt
  clear hrt
  have HG := Aside0.mk hG
  clear hG
  have HB := Aside0.mk (Below.refl w.heap.size w)
  have H : ((some (([0, 1] : List Int) : List Int)).bind fun y140 => ((op_Sets.f k 4 2 1 0 0 (⟨#[]⟩ : ByteArray) (⟨#[]⟩ : ByteArray) (⟨#[]⟩ : ByteArray) ([] : List Int)).bind fun bt144 => ((op_Sets.f k 20 0 0 0 0 (⟨#[65]⟩ : ByteArray) (⟨#[109]⟩ : ByteArray) (⟨#[40, 73, 41, 86]⟩ : ByteArray) y140).bind fun bt146 => ((op_Target.f 7 0 1 0 4 (⟨#[]⟩ : ByteArray) (⟨#[]⟩ : ByteArray) (⟨#[]⟩ : ByteArray) ([] : List Int)).bind fun bt148 => ((op_Fits.f 20 0 0 0 0 (⟨#[65]⟩ : ByteArray) (⟨#[109]⟩ : ByteArray) (⟨#[40, 73, 41, 86]⟩ : ByteArray) y140 2 1).bind fun t150 => (if t150 = 0 then ((op_Fits.f 6 0 0 0 5 (⟨#[]⟩ : ByteArray) (⟨#[]⟩ : ByteArray) (⟨#[]⟩ : ByteArray) ([] : List Int) 0 5).bind fun t151 => (if t151 = 12 then ((op_Shape.f 14).bind fun t152 => (if t152.toList = ([97, 98, 99] : List UInt8) then (if bt144.1 = 2 then (if bt144.2 = true then (if bt146.2 = true then (some false) else (if bt148.1 = 4 then (if bt148.2 = true then ((op_Falls.f 1).bind fun t153 => (if t153 = true then ((op_Falls.f 30).bind fun t154 => (if t154 = true then (some false) else ((op_Uses.f k 20 0 0 0 0 (⟨#[65]⟩ : ByteArray) (⟨#[109]⟩ : ByteArray) (⟨#[40, 73, 41, 86]⟩ : ByteArray) y140).bind fun t155 => ((secateurref01_SameInts.f k t155 (([0, 1] : List Int))).bind fun t161 => (if t161 = true then ((op_IsCall.f 20).bind fun t162 => (if t162 = true then ((op_Same.f k 20 0 0 0 0 (⟨#[65]⟩ : ByteArray) (⟨#[109]⟩ : ByteArray) (⟨#[40, 73, 41, 86]⟩ : ByteArray) y140 20 0 0 0 0 (⟨#[65]⟩ : ByteArray) (⟨#[109]⟩ : ByteArray) (⟨#[40, 73, 41, 86]⟩ : ByteArray) y140).bind fun t163 => (some t163)) else (some false))) else (some false)))))) else (some false))) else (some false)) else (some false))) else (some false)) else (some false)) else (some false))) else (some false))) else (some false))))))) = some r := h
  clear h
  obtain ⟨y140, hy140⟩ : ∃ y_ : List Int, y_ = (([0, 1] : List Int)) := ⟨_, rfl⟩
  replace H : ((op_Sets.f k 4 2 1 0 0 (⟨#[]⟩ : ByteArray) (⟨#[]⟩ : ByteArray) (⟨#[]⟩ : ByteArray) ([] : List Int)).bind fun bt144 => ((op_Sets.f k 20 0 0 0 0 (⟨#[65]⟩ : ByteArray) (⟨#[109]⟩ : ByteArray) (⟨#[40, 73, 41, 86]⟩ : ByteArray) y140).bind fun bt146 => ((op_Target.f 7 0 1 0 4 (⟨#[]⟩ : ByteArray) (⟨#[]⟩ : ByteArray) (⟨#[]⟩ : ByteArray) ([] : List Int)).bind fun bt148 => ((op_Fits.f 20 0 0 0 0 (⟨#[65]⟩ : ByteArray) (⟨#[109]⟩ : ByteArray) (⟨#[40, 73, 41, 86]⟩ : ByteArray) y140 2 1).bind fun t150 => (if t150 = 0 then ((op_Fits.f 6 0 0 0 5 (⟨#[]⟩ : ByteArray) (⟨#[]⟩ : ByteArray) (⟨#[]⟩ : ByteArray) ([] : List Int) 0 5).bind fun t151 => (if t151 = 12 then ((op_Shape.f 14).bind fun t152 => (if t152.toList = ([97, 98, 99] : List UInt8) then (if bt144.1 = 2 then (if bt144.2 = true then (if bt146.2 = true then (some false) else (if bt148.1 = 4 then (if bt148.2 = true then ((op_Falls.f 1).bind fun t153 => (if t153 = true then ((op_Falls.f 30).bind fun t154 => (if t154 = true then (some false) else ((op_Uses.f k 20 0 0 0 0 (⟨#[65]⟩ : ByteArray) (⟨#[109]⟩ : ByteArray) (⟨#[40, 73, 41, 86]⟩ : ByteArray) y140).bind fun t155 => ((secateurref01_SameInts.f k t155 (([0, 1] : List Int))).bind fun t161 => (if t161 = true then ((op_IsCall.f 20).bind fun t162 => (if t162 = true then ((op_Same.f k 20 0 0 0 0 (⟨#[65]⟩ : ByteArray) (⟨#[109]⟩ : ByteArray) (⟨#[40, 73, 41, 86]⟩ : ByteArray) y140 20 0 0 0 0 (⟨#[65]⟩ : ByteArray) (⟨#[109]⟩ : ByteArray) (⟨#[40, 73, 41, 86]⟩ : ByteArray) y140).bind fun t163 => (some t163)) else (some false))) else (some false)))))) else (some false))) else (some false)) else (some false))) else (some false)) else (some false)) else (some false))) else (some false))) else (some false)))))) = some r := by first | (rw [hy140]; with_reducible exact H) | (have H2_ := (Option.bind_some _ _).symm.trans H; rw [hy140]; with_reducible exact H2_) | (have H2_ := (Option.bind_some _ _).symm.trans H; with_reducible exact H2_) | with_reducible exact H | (rw [hy140]; exact H) | exact H
  have Ny140 := Aside0.mk hy140
  clear hy140
  replace H := Option.bind_eq_some_iff.mp H
  obtain ⟨⟨t144, t145⟩, A10, H⟩ := H
  replace H : ((op_Sets.f k 20 0 0 0 0 (⟨#[65]⟩ : ByteArray) (⟨#[109]⟩ : ByteArray) (⟨#[40, 73, 41, 86]⟩ : ByteArray) y140).bind fun bt146 => ((op_Target.f 7 0 1 0 4 (⟨#[]⟩ : ByteArray) (⟨#[]⟩ : ByteArray) (⟨#[]⟩ : ByteArray) ([] : List Int)).bind fun bt148 => ((op_Fits.f 20 0 0 0 0 (⟨#[65]⟩ : ByteArray) (⟨#[109]⟩ : ByteArray) (⟨#[40, 73, 41, 86]⟩ : ByteArray) y140 2 1).bind fun t150 => (if t150 = 0 then ((op_Fits.f 6 0 0 0 5 (⟨#[]⟩ : ByteArray) (⟨#[]⟩ : ByteArray) (⟨#[]⟩ : ByteArray) ([] : List Int) 0 5).bind fun t151 => (if t151 = 12 then ((op_Shape.f 14).bind fun t152 => (if t152.toList = ([97, 98, 99] : List UInt8) then (if t144 = 2 then (if t145 = true then (if bt146.2 = true then (some false) else (if bt148.1 = 4 then (if bt148.2 = true then ((op_Falls.f 1).bind fun t153 => (if t153 = true then ((op_Falls.f 30).bind fun t154 => (if t154 = true then (some false) else ((op_Uses.f k 20 0 0 0 0 (⟨#[65]⟩ : ByteArray) (⟨#[109]⟩ : ByteArray) (⟨#[40, 73, 41, 86]⟩ : ByteArray) y140).bind fun t155 => ((secateurref01_SameInts.f k t155 (([0, 1] : List Int))).bind fun t161 => (if t161 = true then ((op_IsCall.f 20).bind fun t162 => (if t162 = true then ((op_Same.f k 20 0 0 0 0 (⟨#[65]⟩ : ByteArray) (⟨#[109]⟩ : ByteArray) (⟨#[40, 73, 41, 86]⟩ : ByteArray) y140 20 0 0 0 0 (⟨#[65]⟩ : ByteArray) (⟨#[109]⟩ : ByteArray) (⟨#[40, 73, 41, 86]⟩ : ByteArray) y140).bind fun t163 => (some t163)) else (some false))) else (some false)))))) else (some false))) else (some false)) else (some false))) else (some false)) else (some false)) else (some false))) else (some false))) else (some false))))) = some r := H
  have A1 := Aside0.mk A10
  clear A10
  replace H := Option.bind_eq_some_iff.mp H
  obtain ⟨⟨t146, t147⟩, A20, H⟩ := H
  replace H : ((op_Target.f 7 0 1 0 4 (⟨#[]⟩ : ByteArray) (⟨#[]⟩ : ByteArray) (⟨#[]⟩ : ByteArray) ([] : List Int)).bind fun bt148 => ((op_Fits.f 20 0 0 0 0 (⟨#[65]⟩ : ByteArray) (⟨#[109]⟩ : ByteArray) (⟨#[40, 73, 41, 86]⟩ : ByteArray) y140 2 1).bind fun t150 => (if t150 = 0 then ((op_Fits.f 6 0 0 0 5 (⟨#[]⟩ : ByteArray) (⟨#[]⟩ : ByteArray) (⟨#[]⟩ : ByteArray) ([] : List Int) 0 5).bind fun t151 => (if t151 = 12 then ((op_Shape.f 14).bind fun t152 => (if t152.toList = ([97, 98, 99] : List UInt8) then (if t144 = 2 then (if t145 = true then (if t147 = true then (some false) else (if bt148.1 = 4 then (if bt148.2 = true then ((op_Falls.f 1).bind fun t153 => (if t153 = true then ((op_Falls.f 30).bind fun t154 => (if t154 = true then (some false) else ((op_Uses.f k 20 0 0 0 0 (⟨#[65]⟩ : ByteArray) (⟨#[109]⟩ : ByteArray) (⟨#[40, 73, 41, 86]⟩ : ByteArray) y140).bind fun t155 => ((secateurref01_SameInts.f k t155 (([0, 1] : List Int))).bind fun t161 => (if t161 = true then ((op_IsCall.f 20).bind fun t162 => (if t162 = true then ((op_Same.f k 20 0 0 0 0 (⟨#[65]⟩ : ByteArray) (⟨#[109]⟩ : ByteArray) (⟨#[40, 73, 41, 86]⟩ : ByteArray) y140 20 0 0 0 0 (⟨#[65]⟩ : ByteArray) (⟨#[109]⟩ : ByteArray) (⟨#[40, 73, 41, 86]⟩ : ByteArray) y140).bind fun t163 => (some t163)) else (some false))) else (some false)))))) else (some false))) else (some false)) else (some false))) else (some false)) else (some false)) else (some false))) else (some false))) else (some false)))) = some r := H
  have A2 := Aside0.mk A20
  clear A20
  replace H := Option.bind_eq_some_iff.mp H
  obtain ⟨⟨t148, t149⟩, A30, H⟩ := H
  replace H : ((op_Fits.f 20 0 0 0 0 (⟨#[65]⟩ : ByteArray) (⟨#[109]⟩ : ByteArray) (⟨#[40, 73, 41, 86]⟩ : ByteArray) y140 2 1).bind fun t150 => (if t150 = 0 then ((op_Fits.f 6 0 0 0 5 (⟨#[]⟩ : ByteArray) (⟨#[]⟩ : ByteArray) (⟨#[]⟩ : ByteArray) ([] : List Int) 0 5).bind fun t151 => (if t151 = 12 then ((op_Shape.f 14).bind fun t152 => (if t152.toList = ([97, 98, 99] : List UInt8) then (if t144 = 2 then (if t145 = true then (if t147 = true then (some false) else (if t148 = 4 then (if t149 = true then ((op_Falls.f 1).bind fun t153 => (if t153 = true then ((op_Falls.f 30).bind fun t154 => (if t154 = true then (some false) else ((op_Uses.f k 20 0 0 0 0 (⟨#[65]⟩ : ByteArray) (⟨#[109]⟩ : ByteArray) (⟨#[40, 73, 41, 86]⟩ : ByteArray) y140).bind fun t155 => ((secateurref01_SameInts.f k t155 (([0, 1] : List Int))).bind fun t161 => (if t161 = true then ((op_IsCall.f 20).bind fun t162 => (if t162 = true then ((op_Same.f k 20 0 0 0 0 (⟨#[65]⟩ : ByteArray) (⟨#[109]⟩ : ByteArray) (⟨#[40, 73, 41, 86]⟩ : ByteArray) y140 20 0 0 0 0 (⟨#[65]⟩ : ByteArray) (⟨#[109]⟩ : ByteArray) (⟨#[40, 73, 41, 86]⟩ : ByteArray) y140).bind fun t163 => (some t163)) else (some false))) else (some false)))))) else (some false))) else (some false)) else (some false))) else (some false)) else (some false)) else (some false))) else (some false))) else (some false))) = some r := H
  have A3 := Aside0.mk A30
  clear A30
  replace H := Option.bind_eq_some_iff.mp H
  obtain ⟨t150, A40, H⟩ := H
  replace H : (if t150 = 0 then ((op_Fits.f 6 0 0 0 5 (⟨#[]⟩ : ByteArray) (⟨#[]⟩ : ByteArray) (⟨#[]⟩ : ByteArray) ([] : List Int) 0 5).bind fun t151 => (if t151 = 12 then ((op_Shape.f 14).bind fun t152 => (if t152.toList = ([97, 98, 99] : List UInt8) then (if t144 = 2 then (if t145 = true then (if t147 = true then (some false) else (if t148 = 4 then (if t149 = true then ((op_Falls.f 1).bind fun t153 => (if t153 = true then ((op_Falls.f 30).bind fun t154 => (if t154 = true then (some false) else ((op_Uses.f k 20 0 0 0 0 (⟨#[65]⟩ : ByteArray) (⟨#[109]⟩ : ByteArray) (⟨#[40, 73, 41, 86]⟩ : ByteArray) y140).bind fun t155 => ((secateurref01_SameInts.f k t155 (([0, 1] : List Int))).bind fun t161 => (if t161 = true then ((op_IsCall.f 20).bind fun t162 => (if t162 = true then ((op_Same.f k 20 0 0 0 0 (⟨#[65]⟩ : ByteArray) (⟨#[109]⟩ : ByteArray) (⟨#[40, 73, 41, 86]⟩ : ByteArray) y140 20 0 0 0 0 (⟨#[65]⟩ : ByteArray) (⟨#[109]⟩ : ByteArray) (⟨#[40, 73, 41, 86]⟩ : ByteArray) y140).bind fun t163 => (some t163)) else (some false))) else (some false)))))) else (some false))) else (some false)) else (some false))) else (some false)) else (some false)) else (some false))) else (some false))) else (some false)) = some r := H
  have A4 := Aside0.mk A40
  clear A40
  by_cases c5 : t150 = 0
  · rw [if_pos c5] at H
    have c5b0 : (t150 == 0) = true := beq_iff_eq.mpr c5
    have c5b1 : (t150 != 0) = false := bne_eq_false_iff_eq.mpr c5
    clear c5
    replace H := Option.bind_eq_some_iff.mp H
    obtain ⟨t151, A60, H⟩ := H
    replace H : (if t151 = 12 then ((op_Shape.f 14).bind fun t152 => (if t152.toList = ([97, 98, 99] : List UInt8) then (if t144 = 2 then (if t145 = true then (if t147 = true then (some false) else (if t148 = 4 then (if t149 = true then ((op_Falls.f 1).bind fun t153 => (if t153 = true then ((op_Falls.f 30).bind fun t154 => (if t154 = true then (some false) else ((op_Uses.f k 20 0 0 0 0 (⟨#[65]⟩ : ByteArray) (⟨#[109]⟩ : ByteArray) (⟨#[40, 73, 41, 86]⟩ : ByteArray) y140).bind fun t155 => ((secateurref01_SameInts.f k t155 (([0, 1] : List Int))).bind fun t161 => (if t161 = true then ((op_IsCall.f 20).bind fun t162 => (if t162 = true then ((op_Same.f k 20 0 0 0 0 (⟨#[65]⟩ : ByteArray) (⟨#[109]⟩ : ByteArray) (⟨#[40, 73, 41, 86]⟩ : ByteArray) y140 20 0 0 0 0 (⟨#[65]⟩ : ByteArray) (⟨#[109]⟩ : ByteArray) (⟨#[40, 73, 41, 86]⟩ : ByteArray) y140).bind fun t163 => (some t163)) else (some false))) else (some false)))))) else (some false))) else (some false)) else (some false))) else (some false)) else (some false)) else (some false))) else (some false)) = some r := H
    have A6 := Aside0.mk A60
    clear A60
    by_cases c7 : t151 = 12
    · rw [if_pos c7] at H
      have c7b0 : (t151 == 12) = true := beq_iff_eq.mpr c7
      have c7b1 : (t151 != 12) = false := bne_eq_false_iff_eq.mpr c7
      clear c7
      replace H := Option.bind_eq_some_iff.mp H
      obtain ⟨t152, A80, H⟩ := H
      replace H : (if t152.toList = ([97, 98, 99] : List UInt8) then (if t144 = 2 then (if t145 = true then (if t147 = true then (some false) else (if t148 = 4 then (if t149 = true then ((op_Falls.f 1).bind fun t153 => (if t153 = true then ((op_Falls.f 30).bind fun t154 => (if t154 = true then (some false) else ((op_Uses.f k 20 0 0 0 0 (⟨#[65]⟩ : ByteArray) (⟨#[109]⟩ : ByteArray) (⟨#[40, 73, 41, 86]⟩ : ByteArray) y140).bind fun t155 => ((secateurref01_SameInts.f k t155 (([0, 1] : List Int))).bind fun t161 => (if t161 = true then ((op_IsCall.f 20).bind fun t162 => (if t162 = true then ((op_Same.f k 20 0 0 0 0 (⟨#[65]⟩ : ByteArray) (⟨#[109]⟩ : ByteArray) (⟨#[40, 73, 41, 86]⟩ : ByteArray) y140 20 0 0 0 0 (⟨#[65]⟩ : ByteArray) (⟨#[109]⟩ : ByteArray) (⟨#[40, 73, 41, 86]⟩ : ByteArray) y140).bind fun t163 => (some t163)) else (some false))) else (some false)))))) else (some false))) else (some false)) else (some false))) else (some false)) else (some false)) else (some false)) = some r := H
      have A8 := Aside0.mk A80
      clear A80
      by_cases c9 : t152.toList = ([97, 98, 99] : List UInt8)
      · rw [if_pos c9] at H
        have c9b0 : (t152.toList == ([97, 98, 99] : List UInt8)) = true := beq_iff_eq.mpr c9
        have c9b1 : (t152.toList != ([97, 98, 99] : List UInt8)) = false := bne_eq_false_iff_eq.mpr c9
        clear c9
        by_cases c10 : t144 = 2
        · rw [if_pos c10] at H
          have c10b0 : (t144 == 2) = true := beq_iff_eq.mpr c10
          have c10b1 : (t144 != 2) = false := bne_eq_false_iff_eq.mpr c10
          clear c10
          by_cases c11 : t145 = true
          · subst c11
            have H1 : (if t147 = true then (some false) else (if t148 = 4 then (if t149 = true then ((op_Falls.f 1).bind fun t153 => (if t153 = true then ((op_Falls.f 30).bind fun t154 => (if t154 = true then (some false) else ((op_Uses.f k 20 0 0 0 0 (⟨#[65]⟩ : ByteArray) (⟨#[109]⟩ : ByteArray) (⟨#[40, 73, 41, 86]⟩ : ByteArray) y140).bind fun t155 => ((secateurref01_SameInts.f k t155 (([0, 1] : List Int))).bind fun t161 => (if t161 = true then ((op_IsCall.f 20).bind fun t162 => (if t162 = true then ((op_Same.f k 20 0 0 0 0 (⟨#[65]⟩ : ByteArray) (⟨#[109]⟩ : ByteArray) (⟨#[40, 73, 41, 86]⟩ : ByteArray) y140 20 0 0 0 0 (⟨#[65]⟩ : ByteArray) (⟨#[109]⟩ : ByteArray) (⟨#[40, 73, 41, 86]⟩ : ByteArray) y140).bind fun t163 => (some t163)) else (some false))) else (some false)))))) else (some false))) else (some false)) else (some false))) = some r := by rw [if_pos rfl] at H; exact H
            clear H
            have H := H1
            clear H1
            by_cases c12 : t147 = true
            · subst c12
              have H1 : (some false) = some r := by rw [if_pos rfl] at H; exact H
              clear H
              have H := H1
              clear H1
              obtain rfl := Option.some.inj H
              cases HRT.out
            · replace c12 := Bool.eq_false_iff.mpr c12
              subst c12
              have H1 : (if t148 = 4 then (if t149 = true then ((op_Falls.f 1).bind fun t153 => (if t153 = true then ((op_Falls.f 30).bind fun t154 => (if t154 = true then (some false) else ((op_Uses.f k 20 0 0 0 0 (⟨#[65]⟩ : ByteArray) (⟨#[109]⟩ : ByteArray) (⟨#[40, 73, 41, 86]⟩ : ByteArray) y140).bind fun t155 => ((secateurref01_SameInts.f k t155 (([0, 1] : List Int))).bind fun t161 => (if t161 = true then ((op_IsCall.f 20).bind fun t162 => (if t162 = true then ((op_Same.f k 20 0 0 0 0 (⟨#[65]⟩ : ByteArray) (⟨#[109]⟩ : ByteArray) (⟨#[40, 73, 41, 86]⟩ : ByteArray) y140 20 0 0 0 0 (⟨#[65]⟩ : ByteArray) (⟨#[109]⟩ : ByteArray) (⟨#[40, 73, 41, 86]⟩ : ByteArray) y140).bind fun t163 => (some t163)) else (some false))) else (some false)))))) else (some false))) else (some false)) else (some false)) = some r := by rw [if_neg (show ¬ (false = true) by decide)] at H; exact H
              clear H
              have H := H1
              clear H1
              by_cases c13 : t148 = 4
              · rw [if_pos c13] at H
                have c13b0 : (t148 == 4) = true := beq_iff_eq.mpr c13
                have c13b1 : (t148 != 4) = false := bne_eq_false_iff_eq.mpr c13
                clear c13
                by_cases c14 : t149 = true
                · subst c14
                  have H1 : ((op_Falls.f 1).bind fun t153 => (if t153 = true then ((op_Falls.f 30).bind fun t154 => (if t154 = true then (some false) else ((op_Uses.f k 20 0 0 0 0 (⟨#[65]⟩ : ByteArray) (⟨#[109]⟩ : ByteArray) (⟨#[40, 73, 41, 86]⟩ : ByteArray) y140).bind fun t155 => ((secateurref01_SameInts.f k t155 (([0, 1] : List Int))).bind fun t161 => (if t161 = true then ((op_IsCall.f 20).bind fun t162 => (if t162 = true then ((op_Same.f k 20 0 0 0 0 (⟨#[65]⟩ : ByteArray) (⟨#[109]⟩ : ByteArray) (⟨#[40, 73, 41, 86]⟩ : ByteArray) y140 20 0 0 0 0 (⟨#[65]⟩ : ByteArray) (⟨#[109]⟩ : ByteArray) (⟨#[40, 73, 41, 86]⟩ : ByteArray) y140).bind fun t163 => (some t163)) else (some false))) else (some false)))))) else (some false))) = some r := by rw [if_pos rfl] at H; exact H
                  clear H
                  have H := H1
                  clear H1
                  replace H := Option.bind_eq_some_iff.mp H
                  obtain ⟨t153, A150, H⟩ := H
                  replace H : (if t153 = true then ((op_Falls.f 30).bind fun t154 => (if t154 = true then (some false) else ((op_Uses.f k 20 0 0 0 0 (⟨#[65]⟩ : ByteArray) (⟨#[109]⟩ : ByteArray) (⟨#[40, 73, 41, 86]⟩ : ByteArray) y140).bind fun t155 => ((secateurref01_SameInts.f k t155 (([0, 1] : List Int))).bind fun t161 => (if t161 = true then ((op_IsCall.f 20).bind fun t162 => (if t162 = true then ((op_Same.f k 20 0 0 0 0 (⟨#[65]⟩ : ByteArray) (⟨#[109]⟩ : ByteArray) (⟨#[40, 73, 41, 86]⟩ : ByteArray) y140 20 0 0 0 0 (⟨#[65]⟩ : ByteArray) (⟨#[109]⟩ : ByteArray) (⟨#[40, 73, 41, 86]⟩ : ByteArray) y140).bind fun t163 => (some t163)) else (some false))) else (some false)))))) else (some false)) = some r := H
                  have A15 := Aside0.mk A150
                  clear A150
                  by_cases c16 : t153 = true
                  · subst c16
                    have H1 : ((op_Falls.f 30).bind fun t154 => (if t154 = true then (some false) else ((op_Uses.f k 20 0 0 0 0 (⟨#[65]⟩ : ByteArray) (⟨#[109]⟩ : ByteArray) (⟨#[40, 73, 41, 86]⟩ : ByteArray) y140).bind fun t155 => ((secateurref01_SameInts.f k t155 (([0, 1] : List Int))).bind fun t161 => (if t161 = true then ((op_IsCall.f 20).bind fun t162 => (if t162 = true then ((op_Same.f k 20 0 0 0 0 (⟨#[65]⟩ : ByteArray) (⟨#[109]⟩ : ByteArray) (⟨#[40, 73, 41, 86]⟩ : ByteArray) y140 20 0 0 0 0 (⟨#[65]⟩ : ByteArray) (⟨#[109]⟩ : ByteArray) (⟨#[40, 73, 41, 86]⟩ : ByteArray) y140).bind fun t163 => (some t163)) else (some false))) else (some false)))))) = some r := by rw [if_pos rfl] at H; exact H
                    clear H
                    have H := H1
                    clear H1
                    replace H := Option.bind_eq_some_iff.mp H
                    obtain ⟨t154, A170, H⟩ := H
                    replace H : (if t154 = true then (some false) else ((op_Uses.f k 20 0 0 0 0 (⟨#[65]⟩ : ByteArray) (⟨#[109]⟩ : ByteArray) (⟨#[40, 73, 41, 86]⟩ : ByteArray) y140).bind fun t155 => ((secateurref01_SameInts.f k t155 (([0, 1] : List Int))).bind fun t161 => (if t161 = true then ((op_IsCall.f 20).bind fun t162 => (if t162 = true then ((op_Same.f k 20 0 0 0 0 (⟨#[65]⟩ : ByteArray) (⟨#[109]⟩ : ByteArray) (⟨#[40, 73, 41, 86]⟩ : ByteArray) y140 20 0 0 0 0 (⟨#[65]⟩ : ByteArray) (⟨#[109]⟩ : ByteArray) (⟨#[40, 73, 41, 86]⟩ : ByteArray) y140).bind fun t163 => (some t163)) else (some false))) else (some false))))) = some r := H
                    have A17 := Aside0.mk A170
                    clear A170
                    by_cases c18 : t154 = true
                    · subst c18
                      have H1 : (some false) = some r := by rw [if_pos rfl] at H; exact H
                      clear H
                      have H := H1
                      clear H1
                      obtain rfl := Option.some.inj H
                      cases HRT.out
                    · replace c18 := Bool.eq_false_iff.mpr c18
                      subst c18
                      have H1 : ((op_Uses.f k 20 0 0 0 0 (⟨#[65]⟩ : ByteArray) (⟨#[109]⟩ : ByteArray) (⟨#[40, 73, 41, 86]⟩ : ByteArray) y140).bind fun t155 => ((secateurref01_SameInts.f k t155 (([0, 1] : List Int))).bind fun t161 => (if t161 = true then ((op_IsCall.f 20).bind fun t162 => (if t162 = true then ((op_Same.f k 20 0 0 0 0 (⟨#[65]⟩ : ByteArray) (⟨#[109]⟩ : ByteArray) (⟨#[40, 73, 41, 86]⟩ : ByteArray) y140 20 0 0 0 0 (⟨#[65]⟩ : ByteArray) (⟨#[109]⟩ : ByteArray) (⟨#[40, 73, 41, 86]⟩ : ByteArray) y140).bind fun t163 => (some t163)) else (some false))) else (some false)))) = some r := by rw [if_neg (show ¬ (false = true) by decide)] at H; exact H
                      clear H
                      have H := H1
                      clear H1
                      replace H := Option.bind_eq_some_iff.mp H
                      obtain ⟨t155, A190, H⟩ := H
                      replace H : ((secateurref01_SameInts.f k t155 (([0, 1] : List Int))).bind fun t161 => (if t161 = true then ((op_IsCall.f 20).bind fun t162 => (if t162 = true then ((op_Same.f k 20 0 0 0 0 (⟨#[65]⟩ : ByteArray) (⟨#[109]⟩ : ByteArray) (⟨#[40, 73, 41, 86]⟩ : ByteArray) y140 20 0 0 0 0 (⟨#[65]⟩ : ByteArray) (⟨#[109]⟩ : ByteArray) (⟨#[40, 73, 41, 86]⟩ : ByteArray) y140).bind fun t163 => (some t163)) else (some false))) else (some false))) = some r := H
                      have A19 := Aside0.mk A190
                      clear A190
                      obtain ⟨y158, hy158⟩ : ∃ y_ : List Int, y_ = (([0, 1] : List Int)) := ⟨_, rfl⟩
                      replace H : ((secateurref01_SameInts.f k t155 y158).bind fun t161 => (if t161 = true then ((op_IsCall.f 20).bind fun t162 => (if t162 = true then ((op_Same.f k 20 0 0 0 0 (⟨#[65]⟩ : ByteArray) (⟨#[109]⟩ : ByteArray) (⟨#[40, 73, 41, 86]⟩ : ByteArray) y140 20 0 0 0 0 (⟨#[65]⟩ : ByteArray) (⟨#[109]⟩ : ByteArray) (⟨#[40, 73, 41, 86]⟩ : ByteArray) y140).bind fun t163 => (some t163)) else (some false))) else (some false))) = some r := by first | (rw [hy158]; with_reducible exact H) | (have H2_ := (Option.bind_some _ _).symm.trans H; rw [hy158]; with_reducible exact H2_) | (have H2_ := (Option.bind_some _ _).symm.trans H; with_reducible exact H2_) | with_reducible exact H | (rw [hy158]; exact H) | exact H
                      have Ny158 := Aside0.mk hy158
                      clear hy158
                      replace H := Option.bind_eq_some_iff.mp H
                      obtain ⟨t161, A200, H⟩ := H
                      replace H : (if t161 = true then ((op_IsCall.f 20).bind fun t162 => (if t162 = true then ((op_Same.f k 20 0 0 0 0 (⟨#[65]⟩ : ByteArray) (⟨#[109]⟩ : ByteArray) (⟨#[40, 73, 41, 86]⟩ : ByteArray) y140 20 0 0 0 0 (⟨#[65]⟩ : ByteArray) (⟨#[109]⟩ : ByteArray) (⟨#[40, 73, 41, 86]⟩ : ByteArray) y140).bind fun t163 => (some t163)) else (some false))) else (some false)) = some r := H
                      have A20 := Aside0.mk A200
                      clear A200
                      by_cases c21 : t161 = true
                      · subst c21
                        have H1 : ((op_IsCall.f 20).bind fun t162 => (if t162 = true then ((op_Same.f k 20 0 0 0 0 (⟨#[65]⟩ : ByteArray) (⟨#[109]⟩ : ByteArray) (⟨#[40, 73, 41, 86]⟩ : ByteArray) y140 20 0 0 0 0 (⟨#[65]⟩ : ByteArray) (⟨#[109]⟩ : ByteArray) (⟨#[40, 73, 41, 86]⟩ : ByteArray) y140).bind fun t163 => (some t163)) else (some false))) = some r := by rw [if_pos rfl] at H; exact H
                        clear H
                        have H := H1
                        clear H1
                        replace H := Option.bind_eq_some_iff.mp H
                        obtain ⟨t162, A220, H⟩ := H
                        replace H : (if t162 = true then ((op_Same.f k 20 0 0 0 0 (⟨#[65]⟩ : ByteArray) (⟨#[109]⟩ : ByteArray) (⟨#[40, 73, 41, 86]⟩ : ByteArray) y140 20 0 0 0 0 (⟨#[65]⟩ : ByteArray) (⟨#[109]⟩ : ByteArray) (⟨#[40, 73, 41, 86]⟩ : ByteArray) y140).bind fun t163 => (some t163)) else (some false)) = some r := H
                        have A22 := Aside0.mk A220
                        clear A220
                        by_cases c23 : t162 = true
                        · subst c23
                          have H1 : ((op_Same.f k 20 0 0 0 0 (⟨#[65]⟩ : ByteArray) (⟨#[109]⟩ : ByteArray) (⟨#[40, 73, 41, 86]⟩ : ByteArray) y140 20 0 0 0 0 (⟨#[65]⟩ : ByteArray) (⟨#[109]⟩ : ByteArray) (⟨#[40, 73, 41, 86]⟩ : ByteArray) y140).bind fun t163 => (some t163)) = some r := by rw [if_pos rfl] at H; exact H
                          clear H
                          have H := H1
                          clear H1
                          replace H := Option.bind_eq_some_iff.mp H
                          obtain ⟨t163, A240, H⟩ := H
                          replace H : (some t163) = some r := H
                          have A24 := Aside0.mk A240
                          clear A240
                          obtain rfl := Option.some.inj H
                          simp only [Option.some.injEq, Prod.mk.injEq] at H
                          obtain ⟨rfl⟩ := H
                          go_enter Tryd.func16, Tryd.ntmps16
                          go_wp2_with (first | ((with_reducible refine gate_dst (N := 8) rfl ?_); (try (refine gate_guard (by rfl) ?_; dsimp only)); refine Kd.R_lit (Kd.int .i64) _ 3 ?hg (N := 8) ?hd (xs := ([0, 1] : List Int)) (inner := [.int .i64 0, .int .i64 1]) (ok := fun _ => True) (okp := fun _ => True) ?hr ?hp (fun _ hk => hk) trivial (Below.refl _ _) (Nat.le_refl _) (by simp) ?_; (case hd => rfl); (case hg => rfl); (case hr => first | (go_simp; done) | (go_simp; rfl)); (case hp => exact (Reps.one (show Kd.M (Kd.int .i64) _ _ _ 0 [.int .i64 0] from rfl) (Reps.one (show Kd.M (Kd.int .i64) _ _ _ 1 [.int .i64 1] from rfl) (Reps.none _ _)))); intro v141 w25 ho26 hb hg_ hnew_; clear hg_ hnew_; (first | rw [← Ny140.out] at ho26 | (simp only [Int.reduceToNat] at ho26; rw [← Ny140.out] at ho26)); have n0_ := Aside0.mk (Kd.R_lower ho26 (below_size (by repeat (first | (with_reducible first | exact HB.out | apply below_alloc | apply pw_below_drewN | apply below_drew1) | exact HB.out)))); have n1_ := Aside0.mk (below_step (by repeat (first | (with_reducible first | exact HB.out | apply below_alloc | apply pw_below_drewN | apply below_drew1) | exact HB.out)) hb); clear HB; have HO142 := n0_; have HB := n1_; clear n0_ n1_; clear hb ho26; obtain ⟨Ao27, co27, eo27⟩ := Kd.R_slice HO142.out; subst eo27) | ((with_reducible refine gate_dst (N := 1) rfl ?_); (try (refine gate_guard (by rfl) ?_; dsimp only)); refine box_event ?hg (N := 1) ?hd (cs := #[.int .i64 0, .int .i64 0, .int .i64 0, .int .i64 0, .int .i64 0, .string (⟨#[]⟩ : ByteArray), .string (⟨#[]⟩ : ByteArray), .string (⟨#[]⟩ : ByteArray), .slice none 0 0]) (t := 44) ?hr ?_; (case hd => rfl); (case hg => rfl); (case hr => first | (go_simp; done) | (go_simp; rfl)); intro gb143 hg w28 hbox hb; have n0_ := Aside0.mk (Kd.R_below (by (with_reducible repeat (first | apply Kd.R_alloc | apply Kd.R_drewN | apply Kd.R_drew)); exact HO142.out) hb); have n1_ := Aside0.mk (below_step (by repeat (first | (with_reducible first | exact HB.out | apply below_alloc | apply pw_below_drewN | apply below_drew1) | exact HB.out)) hb); have n2_ := Aside0.mk (hbox); have n3_ := Aside0.mk ((by rw [hg]; exact (below_size (by repeat (first | (with_reducible first | exact HB.out | apply below_alloc | apply pw_below_drewN | apply below_drew1) | exact HB.out))) : w.heap.size ≤ gb143)); have n4_ := Aside0.mk ((by rw [hg]; exact (below_size (by repeat (first | (with_reducible first | exact HB.out | apply below_alloc | apply pw_below_drewN | apply below_drew1) | exact HB.out))) : w.heap.size ≤ gb143)); clear HO142; clear HB; have HO142 := n0_; have HB := n1_; have BK143 := n2_; have GW143 := n3_; have GE143 := n4_; clear n0_ n1_ n2_ n3_ n4_; clear hb hbox hg; have hcz29_0 : w28.cell? ⟨gb143, 0, none⟩ = some (.int .i64 0) := (blk_cell BK143.out 0).trans rfl; have hcz29_1 : w28.cell? ⟨gb143, 1, none⟩ = some (.int .i64 0) := (blk_cell BK143.out 1).trans rfl; have hcz29_2 : w28.cell? ⟨gb143, 2, none⟩ = some (.int .i64 0) := (blk_cell BK143.out 2).trans rfl; have hcz29_3 : w28.cell? ⟨gb143, 3, none⟩ = some (.int .i64 0) := (blk_cell BK143.out 3).trans rfl; have hcz29_4 : w28.cell? ⟨gb143, 4, none⟩ = some (.int .i64 0) := (blk_cell BK143.out 4).trans rfl; have hcz29_5 : w28.cell? ⟨gb143, 5, none⟩ = some (.string (⟨#[]⟩ : ByteArray)) := (blk_cell BK143.out 5).trans rfl; have hcz29_6 : w28.cell? ⟨gb143, 6, none⟩ = some (.string (⟨#[]⟩ : ByteArray)) := (blk_cell BK143.out 6).trans rfl; have hcz29_7 : w28.cell? ⟨gb143, 7, none⟩ = some (.string (⟨#[]⟩ : ByteArray)) := (blk_cell BK143.out 7).trans rfl; have hcz29_8 : w28.cell? ⟨gb143, 8, none⟩ = some (.slice none 0 0) := (blk_cell BK143.out 8).trans rfl; have hfz29_0 := blk_frozen BK143.out 0; have hfz29_1 := blk_frozen BK143.out 1; have hfz29_2 := blk_frozen BK143.out 2; have hfz29_3 := blk_frozen BK143.out 3; have hfz29_4 := blk_frozen BK143.out 4; have hfz29_5 := blk_frozen BK143.out 5; have hfz29_6 := blk_frozen BK143.out 6; have hfz29_7 := blk_frozen BK143.out 7; have hfz29_8 := blk_frozen BK143.out 8) | ((with_reducible refine gate_callee (f := 14) rfl ?_); refine goesL_ (some 12) rfl rfl Tryd.func14 (by kernel_rfl) rfl #[.agg #[.int .i64 4, .int .i64 2, .int .i64 1, .int .i64 0, .int .i64 0, .string (⟨#[]⟩ : ByteArray), .string (⟨#[]⟩ : ByteArray), .string (⟨#[]⟩ : ByteArray), .slice none 0 0]] rfl (by (try simp only [List.map_toArray, List.map_cons, List.map_nil]); first | done | rfl | (simp only [List.length_drop, List.length_take]; rfl)) ?_; (refine (op_Sets.calls k 4 2 1 0 0 (⟨#[]⟩ : ByteArray) (⟨#[]⟩ : ByteArray) (⟨#[]⟩ : ByteArray) _ _ ([] : List Int) t144 true _ ?side3 ?side1 ?side2 A1.out).mono ?_); (case side1 => exact Kd.C_nil _ _); (case side2 => exact Nat.le_refl _); (case side3 => exact GW.below HG.out (by repeat (first | (with_reducible first | exact HB.out | apply below_alloc | apply pw_below_drewN | apply below_drew1 | refine below_set ?_ GE143.out) | exact HB.out))); rintro e w30 ⟨rfl, hb⟩; refine ⟨_, rfl, ?_⟩; have n0_ := Aside0.mk (Kd.R_below (by (with_reducible repeat (first | apply Kd.R_alloc | apply Kd.R_drewN | apply Kd.R_drew)); exact (Kd.R_mono (Kd.R_far (p := ⟨gb143, 8, none⟩) (Kd.R_far (p := ⟨gb143, 7, none⟩) (Kd.R_far (p := ⟨gb143, 6, none⟩) (Kd.R_far (p := ⟨gb143, 5, none⟩) (Kd.R_far (p := ⟨gb143, 4, none⟩) (Kd.R_far (p := ⟨gb143, 3, none⟩) (Kd.R_far (p := ⟨gb143, 2, none⟩) (Kd.R_far (p := ⟨gb143, 1, none⟩) (Kd.R_far (p := ⟨gb143, 0, none⟩) (Kd.R_types HO142.out BK143.out (by decide)) (fun _ hk => hk.2) (.int .i64 20)) (fun _ hk => hk.2) (.int .i64 0)) (fun _ hk => hk.2) (.int .i64 0)) (fun _ hk => hk.2) (.int .i64 0)) (fun _ hk => hk.2) (.int .i64 0)) (fun _ hk => hk.2) (.string (⟨#[65]⟩ : ByteArray))) (fun _ hk => hk.2) (.string (⟨#[109]⟩ : ByteArray))) (fun _ hk => hk.2) (.string (⟨#[40, 73, 41, 86]⟩ : ByteArray))) (fun _ hk => hk.2) (.slice Ao27 y140.length co27)) (fun _ h_ => h_.1))) hb); have n1_ := Aside0.mk (blk_below (g := gb143) (o := .cells #[.int .i64 20, .int .i64 0, .int .i64 0, .int .i64 0, .int .i64 0, .string (⟨#[65]⟩ : ByteArray), .string (⟨#[109]⟩ : ByteArray), .string (⟨#[40, 73, 41, 86]⟩ : ByteArray), .slice Ao27 y140.length co27] 44 (0, 0)) (by (with_reducible repeat (first | refine blk_drewN ?_ _ | refine blk_drew ?_ | refine blk_alloc ?_ _)); refine blk_put (cs := #[.int .i64 20, .int .i64 0, .int .i64 0, .int .i64 0, .int .i64 0, .string (⟨#[65]⟩ : ByteArray), .string (⟨#[109]⟩ : ByteArray), .string (⟨#[40, 73, 41, 86]⟩ : ByteArray), .slice none 0 0]) ?_ 8 _ rfl; (with_reducible repeat (first | refine blk_drewN ?_ _ | refine blk_drew ?_ | refine blk_alloc ?_ _)); refine blk_put (cs := #[.int .i64 20, .int .i64 0, .int .i64 0, .int .i64 0, .int .i64 0, .string (⟨#[65]⟩ : ByteArray), .string (⟨#[109]⟩ : ByteArray), .string (⟨#[]⟩ : ByteArray), .slice none 0 0]) ?_ 7 _ rfl; (with_reducible repeat (first | refine blk_drewN ?_ _ | refine blk_drew ?_ | refine blk_alloc ?_ _)); refine blk_put (cs := #[.int .i64 20, .int .i64 0, .int .i64 0, .int .i64 0, .int .i64 0, .string (⟨#[65]⟩ : ByteArray), .string (⟨#[]⟩ : ByteArray), .string (⟨#[]⟩ : ByteArray), .slice none 0 0]) ?_ 6 _ rfl; (with_reducible repeat (first | refine blk_drewN ?_ _ | refine blk_drew ?_ | refine blk_alloc ?_ _)); refine blk_put (cs := #[.int .i64 20, .int .i64 0, .int .i64 0, .int .i64 0, .int .i64 0, .string (⟨#[]⟩ : ByteArray), .string (⟨#[]⟩ : ByteArray), .string (⟨#[]⟩ : ByteArray), .slice none 0 0]) ?_ 5 _ rfl; (with_reducible repeat (first | refine blk_drewN ?_ _ | refine blk_drew ?_ | refine blk_alloc ?_ _)); refine blk_put (cs := #[.int .i64 20, .int .i64 0, .int .i64 0, .int .i64 0, .int .i64 0, .string (⟨#[]⟩ : ByteArray), .string (⟨#[]⟩ : ByteArray), .string (⟨#[]⟩ : ByteArray), .slice none 0 0]) ?_ 4 _ rfl; (with_reducible repeat (first | refine blk_drewN ?_ _ | refine blk_drew ?_ | refine blk_alloc ?_ _)); refine blk_put (cs := #[.int .i64 20, .int .i64 0, .int .i64 0, .int .i64 0, .int .i64 0, .string (⟨#[]⟩ : ByteArray), .string (⟨#[]⟩ : ByteArray), .string (⟨#[]⟩ : ByteArray), .slice none 0 0]) ?_ 3 _ rfl; (with_reducible repeat (first | refine blk_drewN ?_ _ | refine blk_drew ?_ | refine blk_alloc ?_ _)); refine blk_put (cs := #[.int .i64 20, .int .i64 0, .int .i64 0, .int .i64 0, .int .i64 0, .string (⟨#[]⟩ : ByteArray), .string (⟨#[]⟩ : ByteArray), .string (⟨#[]⟩ : ByteArray), .slice none 0 0]) ?_ 2 _ rfl; (with_reducible repeat (first | refine blk_drewN ?_ _ | refine blk_drew ?_ | refine blk_alloc ?_ _)); refine blk_put (cs := #[.int .i64 20, .int .i64 0, .int .i64 0, .int .i64 0, .int .i64 0, .string (⟨#[]⟩ : ByteArray), .string (⟨#[]⟩ : ByteArray), .string (⟨#[]⟩ : ByteArray), .slice none 0 0]) ?_ 1 _ rfl; (with_reducible repeat (first | refine blk_drewN ?_ _ | refine blk_drew ?_ | refine blk_alloc ?_ _)); refine blk_put (cs := #[.int .i64 0, .int .i64 0, .int .i64 0, .int .i64 0, .int .i64 0, .string (⟨#[]⟩ : ByteArray), .string (⟨#[]⟩ : ByteArray), .string (⟨#[]⟩ : ByteArray), .slice none 0 0]) ?_ 0 _ rfl; (with_reducible repeat (first | refine blk_drewN ?_ _ | refine blk_drew ?_ | refine blk_alloc ?_ _)); exact BK143.out) hb); have n2_ := Aside0.mk (below_step (by repeat (first | (with_reducible first | exact HB.out | apply below_alloc | apply pw_below_drewN | apply below_drew1 | refine below_set ?_ GE143.out) | exact HB.out)) hb); clear HO142; clear BK143; clear HB; have HO142 := n0_; have BK143 := n1_; have HB := n2_; clear n0_ n1_ n2_; (try clear hb); (try clear hb2); (try clear hk); (try clear hi); have hcz31_0 : w30.cell? ⟨gb143, 0, none⟩ = some (.int .i64 20) := (blk_cell BK143.out 0).trans rfl; have hcz31_1 : w30.cell? ⟨gb143, 1, none⟩ = some (.int .i64 0) := (blk_cell BK143.out 1).trans rfl; have hcz31_2 : w30.cell? ⟨gb143, 2, none⟩ = some (.int .i64 0) := (blk_cell BK143.out 2).trans rfl; have hcz31_3 : w30.cell? ⟨gb143, 3, none⟩ = some (.int .i64 0) := (blk_cell BK143.out 3).trans rfl; have hcz31_4 : w30.cell? ⟨gb143, 4, none⟩ = some (.int .i64 0) := (blk_cell BK143.out 4).trans rfl; have hcz31_5 : w30.cell? ⟨gb143, 5, none⟩ = some (.string (⟨#[65]⟩ : ByteArray)) := (blk_cell BK143.out 5).trans rfl; have hcz31_6 : w30.cell? ⟨gb143, 6, none⟩ = some (.string (⟨#[109]⟩ : ByteArray)) := (blk_cell BK143.out 6).trans rfl; have hcz31_7 : w30.cell? ⟨gb143, 7, none⟩ = some (.string (⟨#[40, 73, 41, 86]⟩ : ByteArray)) := (blk_cell BK143.out 7).trans rfl; have hcz31_8 : w30.cell? ⟨gb143, 8, none⟩ = some (.slice Ao27 y140.length co27) := (blk_cell BK143.out 8).trans rfl; have hfz31_0 := blk_frozen BK143.out 0; have hfz31_1 := blk_frozen BK143.out 1; have hfz31_2 := blk_frozen BK143.out 2; have hfz31_3 := blk_frozen BK143.out 3; have hfz31_4 := blk_frozen BK143.out 4; have hfz31_5 := blk_frozen BK143.out 5; have hfz31_6 := blk_frozen BK143.out 6; have hfz31_7 := blk_frozen BK143.out 7; have hfz31_8 := blk_frozen BK143.out 8) | ((with_reducible refine gate_callee (f := 14) rfl ?_); refine goesL_ (some 17) rfl rfl Tryd.func14 (by kernel_rfl) rfl #[.agg #[.int .i64 20, .int .i64 0, .int .i64 0, .int .i64 0, .int .i64 0, .string (⟨#[65]⟩ : ByteArray), .string (⟨#[109]⟩ : ByteArray), .string (⟨#[40, 73, 41, 86]⟩ : ByteArray), .slice Ao27 y140.length co27]] rfl (by (try simp only [List.map_toArray, List.map_cons, List.map_nil]); first | done | rfl | (simp only [List.length_drop, List.length_take]; rfl)) ?_; (with_reducible refine (op_Sets.calls k 20 0 0 0 0 (⟨#[65]⟩ : ByteArray) (⟨#[109]⟩ : ByteArray) (⟨#[40, 73, 41, 86]⟩ : ByteArray) _ _ y140 t146 false _ ?side3 ?side1 ?side2 A2.out).mono ?_); (case side1 => repeat (first | exact (Kd.R_reads' HO142.out).2.2 | (with_reducible refine Kd.C_alloc ?_ _) | (with_reducible refine Kd.C_drewN ?_ _) | (with_reducible refine Kd.C_drew ?_))); (case side2 => exact (Kd.R_reads' HO142.out).2.1); (case side3 => repeat (first | exact (GW.below HG.out HB.out) | (with_reducible refine GW.alloc ?_ _) | (with_reducible refine GW.drewN ?_ _) | (with_reducible refine GW.drew ?_))); rintro e w32 ⟨rfl, hb⟩; refine ⟨_, rfl, ?_⟩; have n0_ := Aside0.mk (Kd.R_below (by (with_reducible repeat (first | apply Kd.R_alloc | apply Kd.R_drewN | apply Kd.R_drew)); exact HO142.out) hb); have n1_ := Aside0.mk (blk_below (g := gb143) (o := .cells #[.int .i64 20, .int .i64 0, .int .i64 0, .int .i64 0, .int .i64 0, .string (⟨#[65]⟩ : ByteArray), .string (⟨#[109]⟩ : ByteArray), .string (⟨#[40, 73, 41, 86]⟩ : ByteArray), .slice Ao27 y140.length co27] 44 (0, 0)) (by (with_reducible repeat (first | refine blk_drewN ?_ _ | refine blk_drew ?_ | refine blk_alloc ?_ _)); exact BK143.out) hb); have n2_ := Aside0.mk (below_step (by repeat (first | (with_reducible first | exact HB.out | apply below_alloc | apply pw_below_drewN | apply below_drew1 | refine below_set ?_ GE143.out) | exact HB.out)) hb); clear HO142; clear BK143; clear HB; have HO142 := n0_; have BK143 := n1_; have HB := n2_; clear n0_ n1_ n2_; (try clear hb); (try clear hb2); (try clear hk); (try clear hi)) | ((with_reducible refine gate_callee (f := 26) rfl ?_); refine goesL_ (some 22) rfl rfl Tryd.func26 (by kernel_rfl) rfl #[.agg #[.int .i64 7, .int .i64 0, .int .i64 1, .int .i64 0, .int .i64 4, .string (⟨#[]⟩ : ByteArray), .string (⟨#[]⟩ : ByteArray), .string (⟨#[]⟩ : ByteArray), .slice none 0 0]] rfl (by (try simp only [List.map_toArray, List.map_cons, List.map_nil]); first | done | rfl | (simp only [List.length_drop, List.length_take]; rfl)) ?_; (refine (op_Target.calls 7 0 1 0 4 (⟨#[]⟩ : ByteArray) (⟨#[]⟩ : ByteArray) (⟨#[]⟩ : ByteArray) _ _ ([] : List Int) t148 true _ ?side3 ?side1 ?side2 A3.out).mono ?_); (case side1 => exact Kd.C_nil _ _); (case side2 => exact Nat.le_refl _); (case side3 => repeat (first | exact (GW.below HG.out HB.out) | (with_reducible refine GW.alloc ?_ _) | (with_reducible refine GW.drewN ?_ _) | (with_reducible refine GW.drew ?_))); rintro e w33 ⟨rfl, hb⟩; refine ⟨_, rfl, ?_⟩; have n0_ := Aside0.mk (Kd.R_below (by (with_reducible repeat (first | apply Kd.R_alloc | apply Kd.R_drewN | apply Kd.R_drew)); exact HO142.out) hb); have n1_ := Aside0.mk (blk_below (g := gb143) (o := .cells #[.int .i64 20, .int .i64 0, .int .i64 0, .int .i64 0, .int .i64 0, .string (⟨#[65]⟩ : ByteArray), .string (⟨#[109]⟩ : ByteArray), .string (⟨#[40, 73, 41, 86]⟩ : ByteArray), .slice Ao27 y140.length co27] 44 (0, 0)) (by (with_reducible repeat (first | refine blk_drewN ?_ _ | refine blk_drew ?_ | refine blk_alloc ?_ _)); exact BK143.out) hb); have n2_ := Aside0.mk (below_step (by repeat (first | (with_reducible first | exact HB.out | apply below_alloc | apply pw_below_drewN | apply below_drew1 | refine below_set ?_ GE143.out) | exact HB.out)) hb); clear HO142; clear BK143; clear HB; have HO142 := n0_; have BK143 := n1_; have HB := n2_; clear n0_ n1_ n2_; (try clear hb); (try clear hb2); (try clear hk); (try clear hi); have hcz34_0 : w33.cell? ⟨gb143, 0, none⟩ = some (.int .i64 20) := (blk_cell BK143.out 0).trans rfl; have hcz34_1 : w33.cell? ⟨gb143, 1, none⟩ = some (.int .i64 0) := (blk_cell BK143.out 1).trans rfl; have hcz34_2 : w33.cell? ⟨gb143, 2, none⟩ = some (.int .i64 0) := (blk_cell BK143.out 2).trans rfl; have hcz34_3 : w33.cell? ⟨gb143, 3, none⟩ = some (.int .i64 0) := (blk_cell BK143.out 3).trans rfl; have hcz34_4 : w33.cell? ⟨gb143, 4, none⟩ = some (.int .i64 0) := (blk_cell BK143.out 4).trans rfl; have hcz34_5 : w33.cell? ⟨gb143, 5, none⟩ = some (.string (⟨#[65]⟩ : ByteArray)) := (blk_cell BK143.out 5).trans rfl; have hcz34_6 : w33.cell? ⟨gb143, 6, none⟩ = some (.string (⟨#[109]⟩ : ByteArray)) := (blk_cell BK143.out 6).trans rfl; have hcz34_7 : w33.cell? ⟨gb143, 7, none⟩ = some (.string (⟨#[40, 73, 41, 86]⟩ : ByteArray)) := (blk_cell BK143.out 7).trans rfl; have hcz34_8 : w33.cell? ⟨gb143, 8, none⟩ = some (.slice Ao27 y140.length co27) := (blk_cell BK143.out 8).trans rfl; have hfz34_0 := blk_frozen BK143.out 0; have hfz34_1 := blk_frozen BK143.out 1; have hfz34_2 := blk_frozen BK143.out 2; have hfz34_3 := blk_frozen BK143.out 3; have hfz34_4 := blk_frozen BK143.out 4; have hfz34_5 := blk_frozen BK143.out 5; have hfz34_6 := blk_frozen BK143.out 6; have hfz34_7 := blk_frozen BK143.out 7; have hfz34_8 := blk_frozen BK143.out 8) | ((with_reducible refine gate_callee (f := 23) rfl ?_); refine goesL_ (some 26) rfl rfl Tryd.func23 (by kernel_rfl) rfl #[.agg #[.int .i64 20, .int .i64 0, .int .i64 0, .int .i64 0, .int .i64 0, .string (⟨#[65]⟩ : ByteArray), .string (⟨#[109]⟩ : ByteArray), .string (⟨#[40, 73, 41, 86]⟩ : ByteArray), .slice Ao27 y140.length co27], .int .i64 2, .int .i64 1] rfl (by (try simp only [List.map_toArray, List.map_cons, List.map_nil]); first | done | rfl | (simp only [List.length_drop, List.length_take]; rfl)) ?_; (with_reducible refine (op_Fits.calls 20 0 0 0 0 (⟨#[65]⟩ : ByteArray) (⟨#[109]⟩ : ByteArray) (⟨#[40, 73, 41, 86]⟩ : ByteArray) _ _ y140 2 1 t150 _ ?side3 ?side1 ?side2 A4.out).mono ?_); (case side1 => repeat (first | exact (Kd.R_reads' HO142.out).2.2 | (with_reducible refine Kd.C_alloc ?_ _) | (with_reducible refine Kd.C_drewN ?_ _) | (with_reducible refine Kd.C_drew ?_))); (case side2 => exact (Kd.R_reads' HO142.out).2.1); (case side3 => repeat (first | exact (GW.below HG.out HB.out) | (with_reducible refine GW.alloc ?_ _) | (with_reducible refine GW.drewN ?_ _) | (with_reducible refine GW.drew ?_))); rintro e w35 ⟨rfl, hb⟩; refine ⟨_, rfl, ?_⟩; have n0_ := Aside0.mk (Kd.R_below (by (with_reducible repeat (first | apply Kd.R_alloc | apply Kd.R_drewN | apply Kd.R_drew)); exact HO142.out) hb); have n1_ := Aside0.mk (blk_below (g := gb143) (o := .cells #[.int .i64 20, .int .i64 0, .int .i64 0, .int .i64 0, .int .i64 0, .string (⟨#[65]⟩ : ByteArray), .string (⟨#[109]⟩ : ByteArray), .string (⟨#[40, 73, 41, 86]⟩ : ByteArray), .slice Ao27 y140.length co27] 44 (0, 0)) (by (with_reducible repeat (first | refine blk_drewN ?_ _ | refine blk_drew ?_ | refine blk_alloc ?_ _)); exact BK143.out) hb); have n2_ := Aside0.mk (below_step (by repeat (first | (with_reducible first | exact HB.out | apply below_alloc | apply pw_below_drewN | apply below_drew1 | refine below_set ?_ GE143.out) | exact HB.out)) hb); clear HO142; clear BK143; clear HB; have HO142 := n0_; have BK143 := n1_; have HB := n2_; clear n0_ n1_ n2_; (try clear hb); (try clear hb2); (try clear hk); (try clear hi)) | (go_at_call 23; (refine (op_Fits.calls 6 0 0 0 5 (⟨#[]⟩ : ByteArray) (⟨#[]⟩ : ByteArray) (⟨#[]⟩ : ByteArray) _ _ ([] : List Int) 0 5 t151 _ ?side3 ?side1 ?side2 A6.out).mono ?_); (case side1 => exact Kd.C_nil _ _); (case side2 => exact Nat.le_refl _); (case side3 => repeat (first | exact (GW.below HG.out HB.out) | (with_reducible refine GW.alloc ?_ _) | (with_reducible refine GW.drewN ?_ _) | (with_reducible refine GW.drew ?_))); rintro e w36 ⟨rfl, hb⟩; have n0_ := Aside0.mk (Kd.R_below (by (with_reducible repeat (first | apply Kd.R_alloc | apply Kd.R_drewN | apply Kd.R_drew)); exact HO142.out) hb); have n1_ := Aside0.mk (blk_below (g := gb143) (o := .cells #[.int .i64 20, .int .i64 0, .int .i64 0, .int .i64 0, .int .i64 0, .string (⟨#[65]⟩ : ByteArray), .string (⟨#[109]⟩ : ByteArray), .string (⟨#[40, 73, 41, 86]⟩ : ByteArray), .slice Ao27 y140.length co27] 44 (0, 0)) (by (with_reducible repeat (first | refine blk_drewN ?_ _ | refine blk_drew ?_ | refine blk_alloc ?_ _)); exact BK143.out) hb); have n2_ := Aside0.mk (below_step (by repeat (first | (with_reducible first | exact HB.out | apply below_alloc | apply pw_below_drewN | apply below_drew1 | refine below_set ?_ GE143.out) | exact HB.out)) hb); clear HO142; clear BK143; clear HB; have HO142 := n0_; have BK143 := n1_; have HB := n2_; clear n0_ n1_ n2_; (try clear hb); (try clear hb2); (try clear hk); (try clear hi)) | (go_at_call 10; (with_reducible refine (op_Shape.calls 14 t152 _ ?side1 A8.out).mono ?_); (case side1 => repeat (first | exact (GW.below HG.out HB.out) | (with_reducible refine GW.alloc ?_ _) | (with_reducible refine GW.drewN ?_ _) | (with_reducible refine GW.drew ?_))); rintro e w' ⟨rfl, ⟨nd, rfl⟩⟩) | (go_at_call 20; (with_reducible refine (op_Falls.calls 1 true _ A15.out).mono ?_); rintro e w' ⟨rfl, ⟨nd, rfl⟩⟩) | (go_at_call 20; (with_reducible refine (op_Falls.calls 30 false _ A17.out).mono ?_); rintro e w' ⟨rfl, ⟨nd, rfl⟩⟩; have hcz37_0 : w36.cell? ⟨gb143, 0, none⟩ = some (.int .i64 20) := (blk_cell BK143.out 0).trans rfl; have hcz37_1 : w36.cell? ⟨gb143, 1, none⟩ = some (.int .i64 0) := (blk_cell BK143.out 1).trans rfl; have hcz37_2 : w36.cell? ⟨gb143, 2, none⟩ = some (.int .i64 0) := (blk_cell BK143.out 2).trans rfl; have hcz37_3 : w36.cell? ⟨gb143, 3, none⟩ = some (.int .i64 0) := (blk_cell BK143.out 3).trans rfl; have hcz37_4 : w36.cell? ⟨gb143, 4, none⟩ = some (.int .i64 0) := (blk_cell BK143.out 4).trans rfl; have hcz37_5 : w36.cell? ⟨gb143, 5, none⟩ = some (.string (⟨#[65]⟩ : ByteArray)) := (blk_cell BK143.out 5).trans rfl; have hcz37_6 : w36.cell? ⟨gb143, 6, none⟩ = some (.string (⟨#[109]⟩ : ByteArray)) := (blk_cell BK143.out 6).trans rfl; have hcz37_7 : w36.cell? ⟨gb143, 7, none⟩ = some (.string (⟨#[40, 73, 41, 86]⟩ : ByteArray)) := (blk_cell BK143.out 7).trans rfl; have hcz37_8 : w36.cell? ⟨gb143, 8, none⟩ = some (.slice Ao27 y140.length co27) := (blk_cell BK143.out 8).trans rfl; have hfz37_0 := blk_frozen BK143.out 0; have hfz37_1 := blk_frozen BK143.out 1; have hfz37_2 := blk_frozen BK143.out 2; have hfz37_3 := blk_frozen BK143.out 3; have hfz37_4 := blk_frozen BK143.out 4; have hfz37_5 := blk_frozen BK143.out 5; have hfz37_6 := blk_frozen BK143.out 6; have hfz37_7 := blk_frozen BK143.out 7; have hfz37_8 := blk_frozen BK143.out 8) | (go_at_call 13; (with_reducible refine (op_Uses.calls k 20 0 0 0 0 (⟨#[65]⟩ : ByteArray) (⟨#[109]⟩ : ByteArray) (⟨#[40, 73, 41, 86]⟩ : ByteArray) _ _ y140 t155 _ ?side3 ?side1 ?side2 A19.out).mono ?_); (case side1 => repeat (first | exact (Kd.R_reads' HO142.out).2.2 | (with_reducible refine Kd.C_alloc ?_ _) | (with_reducible refine Kd.C_drewN ?_ _) | (with_reducible refine Kd.C_drew ?_))); (case side2 => exact (Kd.R_reads' HO142.out).2.1); (case side3 => repeat (first | exact (GW.below HG.out (by repeat (first | (with_reducible first | exact HB.out | apply below_alloc | apply pw_below_drewN | apply below_drew1 | refine below_set ?_ GE143.out) | exact HB.out))) | (with_reducible refine GW.alloc ?_ _) | (with_reducible refine GW.drewN ?_ _) | (with_reducible refine GW.drew ?_))); rintro e w38 ⟨v156, rfl, ho0, hb⟩; have n0_ := Aside0.mk (Kd.R_elder' (by (with_reducible repeat (first | apply Kd.R_alloc | apply Kd.R_drewN | apply Kd.R_drew)); exact HO142.out) (Kd.R_base ho0) hb); have n1_ := Aside0.mk (Kd.R_lower (Kd.R_new' ho0 (Kd.R_lt (by (with_reducible repeat (first | apply Kd.R_alloc | apply Kd.R_drewN | apply Kd.R_drew)); exact HO142.out))) (below_size (by repeat (first | (with_reducible first | exact HB.out | apply below_alloc | apply pw_below_drewN | apply below_drew1 | refine below_set ?_ GE143.out) | exact HB.out)))); have n2_ := Aside0.mk (blk_below (g := gb143) (o := .cells #[.int .i64 20, .int .i64 0, .int .i64 0, .int .i64 0, .int .i64 0, .string (⟨#[65]⟩ : ByteArray), .string (⟨#[109]⟩ : ByteArray), .string (⟨#[40, 73, 41, 86]⟩ : ByteArray), .slice Ao27 y140.length co27] 44 (0, 0)) (by (with_reducible repeat (first | refine blk_drewN ?_ _ | refine blk_drew ?_ | refine blk_alloc ?_ _)); exact BK143.out) hb); have n3_ := Aside0.mk (below_step (by repeat (first | (with_reducible first | exact HB.out | apply below_alloc | apply pw_below_drewN | apply below_drew1 | refine below_set ?_ GE143.out) | exact HB.out)) hb); clear HO142; clear BK143; clear HB; have HO142 := n0_; have HO157 := n1_; have BK143 := n2_; have HB := n3_; clear n0_ n1_ n2_ n3_; (try clear hb); (try clear hb2); (try clear hk); (try clear hi); (try clear ho0)) | ((with_reducible refine gate_dst (N := 65) rfl ?_); (try (refine gate_guard (by rfl) ?_; dsimp only)); refine Kd.R_lit (Kd.int .i64) _ 3 ?hg (N := 65) ?hd (xs := ([0, 1] : List Int)) (inner := [.int .i64 0, .int .i64 1]) (ok := fun _ => True) (okp := fun _ => True) ?hr ?hp (fun _ hk => hk) trivial (Below.refl _ _) (Nat.le_refl _) (by simp) ?_; (case hd => rfl); (case hg => rfl); (case hr => first | (go_simp; done) | (go_simp; rfl)); (case hp => exact (Reps.one (show Kd.M (Kd.int .i64) _ _ _ 0 [.int .i64 0] from rfl) (Reps.one (show Kd.M (Kd.int .i64) _ _ _ 1 [.int .i64 1] from rfl) (Reps.none _ _)))); intro v159 w39 ho40 hb hg_ hnew_; clear hg_ hnew_; (first | rw [← Ny158.out] at ho40 | (simp only [Int.reduceToNat] at ho40; rw [← Ny158.out] at ho40)); have n0_ := Aside0.mk (Kd.R_elder' (by (with_reducible repeat (first | apply Kd.R_alloc | apply Kd.R_drewN | apply Kd.R_drew)); exact HO142.out) (Kd.R_base ho40) hb); have n1_ := Aside0.mk (Kd.R_elder' (by (with_reducible repeat (first | apply Kd.R_alloc | apply Kd.R_drewN | apply Kd.R_drew)); exact HO157.out) (Kd.R_base ho40) hb); have n2_ := Aside0.mk (Kd.R_lower (Kd.R_new' (Kd.R_new' ho40 (Kd.R_lt (by (with_reducible repeat (first | apply Kd.R_alloc | apply Kd.R_drewN | apply Kd.R_drew)); exact HO142.out))) (Kd.R_lt (by (with_reducible repeat (first | apply Kd.R_alloc | apply Kd.R_drewN | apply Kd.R_drew)); exact HO157.out))) (below_size (by repeat (first | (with_reducible first | exact HB.out | apply below_alloc | apply pw_below_drewN | apply below_drew1 | refine below_set ?_ GE143.out) | exact HB.out)))); have n3_ := Aside0.mk (blk_below (g := gb143) (o := .cells #[.int .i64 20, .int .i64 0, .int .i64 0, .int .i64 0, .int .i64 0, .string (⟨#[65]⟩ : ByteArray), .string (⟨#[109]⟩ : ByteArray), .string (⟨#[40, 73, 41, 86]⟩ : ByteArray), .slice Ao27 y140.length co27] 44 (0, 0)) (by (with_reducible repeat (first | refine blk_drewN ?_ _ | refine blk_drew ?_ | refine blk_alloc ?_ _)); exact BK143.out) hb); have n4_ := Aside0.mk (below_step (by repeat (first | (with_reducible first | exact HB.out | apply below_alloc | apply pw_below_drewN | apply below_drew1 | refine below_set ?_ GE143.out) | exact HB.out)) hb); clear HO142; clear HO157; clear BK143; clear HB; have HO142 := n0_; have HO157 := n1_; have HO160 := n2_; have BK143 := n3_; have HB := n4_; clear n0_ n1_ n2_ n3_ n4_; clear hb ho40; obtain ⟨Ao41, co41, eo41⟩ := Kd.R_slice HO157.out; subst eo41; obtain ⟨Ao42, co42, eo42⟩ := Kd.R_slice HO160.out; subst eo42) | (go_at_call 28; (with_reducible refine (secateurref01_SameInts.calls k _ _ t155 _ _ y158 true _ ?side1 ?side2 ?side3 ?side4 A20.out).mono ?_); (case side1 => repeat (first | exact (Kd.R_reads' HO157.out).2.2 | (with_reducible refine Kd.C_alloc ?_ _) | (with_reducible refine Kd.C_drewN ?_ _) | (with_reducible refine Kd.C_drew ?_))); (case side2 => exact (Kd.R_reads' HO157.out).2.1); (case side3 => repeat (first | exact (Kd.R_reads' HO160.out).2.2 | (with_reducible refine Kd.C_alloc ?_ _) | (with_reducible refine Kd.C_drewN ?_ _) | (with_reducible refine Kd.C_drew ?_))); (case side4 => exact (Kd.R_reads' HO160.out).2.1); rintro e w' ⟨rfl, ⟨nd, rfl⟩⟩) | (go_at_call 18; (with_reducible refine (op_IsCall.calls 20 true _ A22.out).mono ?_); rintro e w' ⟨rfl, ⟨nd, rfl⟩⟩; have hcz43_0 : w39.cell? ⟨gb143, 0, none⟩ = some (.int .i64 20) := (blk_cell BK143.out 0).trans rfl; have hcz43_1 : w39.cell? ⟨gb143, 1, none⟩ = some (.int .i64 0) := (blk_cell BK143.out 1).trans rfl; have hcz43_2 : w39.cell? ⟨gb143, 2, none⟩ = some (.int .i64 0) := (blk_cell BK143.out 2).trans rfl; have hcz43_3 : w39.cell? ⟨gb143, 3, none⟩ = some (.int .i64 0) := (blk_cell BK143.out 3).trans rfl; have hcz43_4 : w39.cell? ⟨gb143, 4, none⟩ = some (.int .i64 0) := (blk_cell BK143.out 4).trans rfl; have hcz43_5 : w39.cell? ⟨gb143, 5, none⟩ = some (.string (⟨#[65]⟩ : ByteArray)) := (blk_cell BK143.out 5).trans rfl; have hcz43_6 : w39.cell? ⟨gb143, 6, none⟩ = some (.string (⟨#[109]⟩ : ByteArray)) := (blk_cell BK143.out 6).trans rfl; have hcz43_7 : w39.cell? ⟨gb143, 7, none⟩ = some (.string (⟨#[40, 73, 41, 86]⟩ : ByteArray)) := (blk_cell BK143.out 7).trans rfl; have hcz43_8 : w39.cell? ⟨gb143, 8, none⟩ = some (.slice Ao27 y140.length co27) := (blk_cell BK143.out 8).trans rfl; have hfz43_0 := blk_frozen BK143.out 0; have hfz43_1 := blk_frozen BK143.out 1; have hfz43_2 := blk_frozen BK143.out 2; have hfz43_3 := blk_frozen BK143.out 3; have hfz43_4 := blk_frozen BK143.out 4; have hfz43_5 := blk_frozen BK143.out 5; have hfz43_6 := blk_frozen BK143.out 6; have hfz43_7 := blk_frozen BK143.out 7; have hfz43_8 := blk_frozen BK143.out 8) | (go_at_call 30; (with_reducible refine (op_Same.calls k 20 0 0 0 0 (⟨#[65]⟩ : ByteArray) (⟨#[109]⟩ : ByteArray) (⟨#[40, 73, 41, 86]⟩ : ByteArray) _ _ y140 20 0 0 0 0 (⟨#[65]⟩ : ByteArray) (⟨#[109]⟩ : ByteArray) (⟨#[40, 73, 41, 86]⟩ : ByteArray) _ _ y140 t163 _ ?side1 ?side2 ?side3 ?side4 A24.out).mono ?_); (case side1 => repeat (first | exact (Kd.R_reads' HO142.out).2.2 | (with_reducible refine Kd.C_alloc ?_ _) | (with_reducible refine Kd.C_drewN ?_ _) | (with_reducible refine Kd.C_drew ?_))); (case side2 => exact (Kd.R_reads' HO142.out).2.1); (case side3 => repeat (first | exact (Kd.R_reads' HO142.out).2.2 | (with_reducible refine Kd.C_alloc ?_ _) | (with_reducible refine Kd.C_drewN ?_ _) | (with_reducible refine Kd.C_drew ?_))); (case side4 => exact (Kd.R_reads' HO142.out).2.1); rintro e w44 ⟨rfl, hb⟩; have n0_ := Aside0.mk (Kd.R_below (by (with_reducible repeat (first | apply Kd.R_alloc | apply Kd.R_drewN | apply Kd.R_drew)); exact HO142.out) hb); have n1_ := Aside0.mk (Kd.R_below (by (with_reducible repeat (first | apply Kd.R_alloc | apply Kd.R_drewN | apply Kd.R_drew)); exact HO157.out) hb); have n2_ := Aside0.mk (Kd.R_below (by (with_reducible repeat (first | apply Kd.R_alloc | apply Kd.R_drewN | apply Kd.R_drew)); exact HO160.out) hb); have n3_ := Aside0.mk (blk_below (g := gb143) (o := .cells #[.int .i64 20, .int .i64 0, .int .i64 0, .int .i64 0, .int .i64 0, .string (⟨#[65]⟩ : ByteArray), .string (⟨#[109]⟩ : ByteArray), .string (⟨#[40, 73, 41, 86]⟩ : ByteArray), .slice Ao27 y140.length co27] 44 (0, 0)) (by (with_reducible repeat (first | refine blk_drewN ?_ _ | refine blk_drew ?_ | refine blk_alloc ?_ _)); exact BK143.out) hb); have n4_ := Aside0.mk (below_step (by repeat (first | (with_reducible first | exact HB.out | apply below_alloc | apply pw_below_drewN | apply below_drew1 | refine below_set ?_ GE143.out) | exact HB.out)) hb); clear HO142; clear HO157; clear HO160; clear BK143; clear HB; have HO142 := n0_; have HO157 := n1_; have HO160 := n2_; have BK143 := n3_; have HB := n4_; clear n0_ n1_ n2_ n3_ n4_; (try clear hb); (try clear hb2); (try clear hk); (try clear hi)))
                          go_ret
                          exact ⟨by first | rfl | (simp [errW_none, errW_some] <;> rfl) | (simp [*, errW_none, errW_some] <;> rfl), by repeat (first | (with_reducible first | exact HB.out | apply below_alloc | apply pw_below_drewN | apply below_drew1 | refine below_set ?_ GE143.out) | exact HB.out)⟩
                        · replace c23 := Bool.eq_false_iff.mpr c23
                          subst c23
                          have H1 : (some false) = some r := by rw [if_neg (show ¬ (false = true) by decide)] at H; exact H
                          clear H
                          have H := H1
                          clear H1
                          obtain rfl := Option.some.inj H
                          cases HRT.out
                      · replace c21 := Bool.eq_false_iff.mpr c21
                        subst c21
                        have H1 : (some false) = some r := by rw [if_neg (show ¬ (false = true) by decide)] at H; exact H
                        clear H
                        have H := H1
                        clear H1
                        obtain rfl := Option.some.inj H
                        cases HRT.out
                  · replace c16 := Bool.eq_false_iff.mpr c16
                    subst c16
                    have H1 : (some false) = some r := by rw [if_neg (show ¬ (false = true) by decide)] at H; exact H
                    clear H
                    have H := H1
                    clear H1
                    obtain rfl := Option.some.inj H
                    cases HRT.out
                · replace c14 := Bool.eq_false_iff.mpr c14
                  subst c14
                  have H1 : (some false) = some r := by rw [if_neg (show ¬ (false = true) by decide)] at H; exact H
                  clear H
                  have H := H1
                  clear H1
                  obtain rfl := Option.some.inj H
                  cases HRT.out
              · rw [if_neg c13] at H
                have c13b0 : (t148 == 4) = false := beq_eq_false_iff_ne.mpr c13
                have c13b1 : (t148 != 4) = true := bne_iff_ne.mpr c13
                obtain rfl := Option.some.inj H
                cases HRT.out
          · replace c11 := Bool.eq_false_iff.mpr c11
            subst c11
            have H1 : (some false) = some r := by rw [if_neg (show ¬ (false = true) by decide)] at H; exact H
            clear H
            have H := H1
            clear H1
            obtain rfl := Option.some.inj H
            cases HRT.out
        · rw [if_neg c10] at H
          have c10b0 : (t144 == 2) = false := beq_eq_false_iff_ne.mpr c10
          have c10b1 : (t144 != 2) = true := bne_iff_ne.mpr c10
          obtain rfl := Option.some.inj H
          cases HRT.out
      · rw [if_neg c9] at H
        have c9b0 : (t152.toList == ([97, 98, 99] : List UInt8)) = false := beq_eq_false_iff_ne.mpr c9
        have c9b1 : (t152.toList != ([97, 98, 99] : List UInt8)) = true := bne_iff_ne.mpr c9
        obtain rfl := Option.some.inj H
        cases HRT.out
    · rw [if_neg c7] at H
      have c7b0 : (t151 == 12) = false := beq_eq_false_iff_ne.mpr c7
      have c7b1 : (t151 != 12) = true := bne_iff_ne.mpr c7
      obtain rfl := Option.some.inj H
      cases HRT.out
  · rw [if_neg c5] at H
    have c5b0 : (t150 == 0) = false := beq_eq_false_iff_ne.mpr c5
    have c5b1 : (t150 != 0) = true := bne_iff_ne.mpr c5
    obtain rfl := Option.some.inj H
    cases HRT.out

def secateurlaw07_live.f (k : Nat)  : Option (Bool) := (secateurlaw07_live.g k).bind fun r_ => if r_ = true then some true else none
theorem secateurlaw07_live.mono : ∀ k, LeO (secateurlaw07_live.f k ) (secateurlaw07_live.f (k + 1) ) := by
  intro k
  unfold secateurlaw07_live.f
  exact LeO.bind (secateurlaw07_live.gmono k) (fun _ => LeO.refl _)
theorem secateurlaw07_live.calls (k : Nat)  (r : Bool) (w : World) (hG : GW w) (h : secateurlaw07_live.f k  = some r) :
    Calls Tryd.prog 16 #[] w fun e w' => e = .returned (.bool r) ∧ Below w.heap.size w w' := by
  obtain ⟨r_, h1, h2⟩ := Option.bind_eq_some_iff.mp h
  split at h2
  · rename_i hr_
    obtain rfl := Option.some.inj h2
    subst hr_
    exact secateurlaw07_live.gcalls k _ w hG h1 rfl
  · cases h2
end Go.Proofs.YtmamaijiphdggaaDoor.POp
