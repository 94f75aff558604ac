/- Part of a proof of this seat's statements: plain functions, contracts and rows, written by a program (the kit's printer, some functions given by hand) out of the translation; no conditions of its own. -/
import Derived.Test.YtbdaledkkbkhgaaPGlobx0
import Derived.Test.YtbdaledkkbkhgaaPGlobx1
import Derived.Test.YtbdaledkkbkhgaaPGlobx2
import Derived.Test.YtbdaledkkbkhgaaPGlobx3
namespace Go.Proofs.Ytbdaledkkbkhgaa.PGlob
open Go.RowKit Go.Proofs.YtbdaledkkbkhgaaW.PrintWords Go.Proofs.YtbdaledkkbkhgaaW.PrintLast Go.Proofs.YtbdaledkkbkhgaaW.PrintMore
attribute [local go_sem] max2_int min2_int max_two min_two max_three min_three max_four min_four   -- for this text's walks alone
set_option linter.unusedVariables false
set_option linter.unusedSimpArgs false

/-! ### secateurlaw21_live: function 9 -/
def secateurlaw21_live.f (k : Nat)  : Option (Bool) := (glob_Match.f k (⟨#[97, 42, 99]⟩ : ByteArray) (⟨#[97, 98, 98, 99]⟩ : ByteArray)).bind fun t127 => (if t127 = true then ((glob_Match.f k (⟨#[97, 42, 99]⟩ : ByteArray) (⟨#[97, 98]⟩ : ByteArray)).bind fun t128 => (if t128 = true then (some false) else ((glob_Match.f k (⟨#[97, 63]⟩ : ByteArray) (⟨#[97, 98]⟩ : ByteArray)).bind fun t129 => (if t129 = true then ((glob_Meets.f k (⟨#[97, 63]⟩ : ByteArray) (⟨#[42, 98]⟩ : ByteArray)).bind fun t130 => (if t130 = true then ((glob_Meets.f k (⟨#[97, 63]⟩ : ByteArray) (⟨#[98, 63]⟩ : ByteArray)).bind fun t131 => (if t131 = true then (some false) else ((glob_Right.f k (⟨#[97, 42]⟩ : ByteArray)).bind fun t132 => (if t132 = true then ((glob_Right.f k (⟨#[]⟩ : ByteArray)).bind fun t133 => (if t133 = true then (some false) else ((glob_Plain.f (⟨#[97, 98]⟩ : ByteArray)).bind fun t134 => (if t134 = true then ((glob_Plain.f (⟨#[97, 63]⟩ : ByteArray)).bind fun t135 => (if t135 = true then (some false) else ((glob_Least.f (⟨#[97, 42, 63]⟩ : ByteArray)).bind fun t136 => (if t136 = 2 then ((glob_Among.f k (⟨#[97, 42]⟩ : ByteArray) (([(⟨#[98]⟩ : ByteArray), (⟨#[97, 98]⟩ : ByteArray)] : List ByteArray))).bind fun t140 => ((secateurref01_SameTexts.f k t140 (([(⟨#[97, 98]⟩ : ByteArray)] : List ByteArray))).bind fun t146 => (some t146))) else (some false))))) else (some false))))) else (some false))))) else (some false))) else (some false))))) else (some false))
theorem secateurlaw21_live.mono : ∀ k, LeO (secateurlaw21_live.f k ) (secateurlaw21_live.f (k + 1) ) := by
  intro  k
  unfold secateurlaw21_live.f
  repeat' first
      | (with_reducible exact glob_Among.mono _ _ _)
      | (with_reducible exact glob_Match.mono _ _ _)
      | (with_reducible exact glob_Meets.mono _ _ _)
      | (with_reducible exact glob_Right.mono _ _)
      | (with_reducible exact secateurref01_SameTexts.mono _ _ _)
      | (with_reducible exact LeO.refl _)
      | (with_reducible exact LeO.none _)
      | (with_reducible refine LeO.ite ?_ ?_)
      | (with_reducible refine LeO.bind ?_ (fun _ => ?_))
      | exact glob_Among.mono _ _ _
      | exact glob_Match.mono _ _ _
      | exact glob_Meets.mono _ _ _
      | exact glob_Right.mono _ _
      | exact secateurref01_SameTexts.mono _ _ _
      | exact LeO.none _
      | refine LeO.ite ?_ ?_
      | refine LeO.bind ?_ (fun _ => ?_)
set_option maxHeartbeats 8000000 in
set_option maxRecDepth 100000 in
theorem secateurlaw21_live.calls (k : Nat)  (r : Bool) (w : World) (h : secateurlaw21_live.f k  = some r) :
    Calls Try.prog 9 #[] w fun e w' => e = .returned (.bool r) ∧ Below w.heap.size w w' := by
  have HB := Aside0.mk (Below.refl w.heap.size w)
  have H : ((glob_Match.f k (⟨#[97, 42, 99]⟩ : ByteArray) (⟨#[97, 98, 98, 99]⟩ : ByteArray)).bind fun t127 => (if t127 = true then ((glob_Match.f k (⟨#[97, 42, 99]⟩ : ByteArray) (⟨#[97, 98]⟩ : ByteArray)).bind fun t128 => (if t128 = true then (some false) else ((glob_Match.f k (⟨#[97, 63]⟩ : ByteArray) (⟨#[97, 98]⟩ : ByteArray)).bind fun t129 => (if t129 = true then ((glob_Meets.f k (⟨#[97, 63]⟩ : ByteArray) (⟨#[42, 98]⟩ : ByteArray)).bind fun t130 => (if t130 = true then ((glob_Meets.f k (⟨#[97, 63]⟩ : ByteArray) (⟨#[98, 63]⟩ : ByteArray)).bind fun t131 => (if t131 = true then (some false) else ((glob_Right.f k (⟨#[97, 42]⟩ : ByteArray)).bind fun t132 => (if t132 = true then ((glob_Right.f k (⟨#[]⟩ : ByteArray)).bind fun t133 => (if t133 = true then (some false) else ((glob_Plain.f (⟨#[97, 98]⟩ : ByteArray)).bind fun t134 => (if t134 = true then ((glob_Plain.f (⟨#[97, 63]⟩ : ByteArray)).bind fun t135 => (if t135 = true then (some false) else ((glob_Least.f (⟨#[97, 42, 63]⟩ : ByteArray)).bind fun t136 => (if t136 = 2 then ((glob_Among.f k (⟨#[97, 42]⟩ : ByteArray) (([(⟨#[98]⟩ : ByteArray), (⟨#[97, 98]⟩ : ByteArray)] : List ByteArray))).bind fun t140 => ((secateurref01_SameTexts.f k t140 (([(⟨#[97, 98]⟩ : ByteArray)] : List ByteArray))).bind fun t146 => (some t146))) else (some false))))) else (some false))))) else (some false))))) else (some false))) else (some false))))) else (some false))) = some r := h
  clear h
  replace H := Option.bind_eq_some_iff.mp H
  obtain ⟨t127, A10, H⟩ := H
  replace H : (if t127 = true then ((glob_Match.f k (⟨#[97, 42, 99]⟩ : ByteArray) (⟨#[97, 98]⟩ : ByteArray)).bind fun t128 => (if t128 = true then (some false) else ((glob_Match.f k (⟨#[97, 63]⟩ : ByteArray) (⟨#[97, 98]⟩ : ByteArray)).bind fun t129 => (if t129 = true then ((glob_Meets.f k (⟨#[97, 63]⟩ : ByteArray) (⟨#[42, 98]⟩ : ByteArray)).bind fun t130 => (if t130 = true then ((glob_Meets.f k (⟨#[97, 63]⟩ : ByteArray) (⟨#[98, 63]⟩ : ByteArray)).bind fun t131 => (if t131 = true then (some false) else ((glob_Right.f k (⟨#[97, 42]⟩ : ByteArray)).bind fun t132 => (if t132 = true then ((glob_Right.f k (⟨#[]⟩ : ByteArray)).bind fun t133 => (if t133 = true then (some false) else ((glob_Plain.f (⟨#[97, 98]⟩ : ByteArray)).bind fun t134 => (if t134 = true then ((glob_Plain.f (⟨#[97, 63]⟩ : ByteArray)).bind fun t135 => (if t135 = true then (some false) else ((glob_Least.f (⟨#[97, 42, 63]⟩ : ByteArray)).bind fun t136 => (if t136 = 2 then ((glob_Among.f k (⟨#[97, 42]⟩ : ByteArray) (([(⟨#[98]⟩ : ByteArray), (⟨#[97, 98]⟩ : ByteArray)] : List ByteArray))).bind fun t140 => ((secateurref01_SameTexts.f k t140 (([(⟨#[97, 98]⟩ : ByteArray)] : List ByteArray))).bind fun t146 => (some t146))) else (some false))))) else (some false))))) else (some false))))) else (some false))) else (some false))))) else (some false)) = some r := H
  have A1 := Aside0.mk A10
  clear A10
  by_cases c2 : t127 = true
  · subst c2
    have H1 : ((glob_Match.f k (⟨#[97, 42, 99]⟩ : ByteArray) (⟨#[97, 98]⟩ : ByteArray)).bind fun t128 => (if t128 = true then (some false) else ((glob_Match.f k (⟨#[97, 63]⟩ : ByteArray) (⟨#[97, 98]⟩ : ByteArray)).bind fun t129 => (if t129 = true then ((glob_Meets.f k (⟨#[97, 63]⟩ : ByteArray) (⟨#[42, 98]⟩ : ByteArray)).bind fun t130 => (if t130 = true then ((glob_Meets.f k (⟨#[97, 63]⟩ : ByteArray) (⟨#[98, 63]⟩ : ByteArray)).bind fun t131 => (if t131 = true then (some false) else ((glob_Right.f k (⟨#[97, 42]⟩ : ByteArray)).bind fun t132 => (if t132 = true then ((glob_Right.f k (⟨#[]⟩ : ByteArray)).bind fun t133 => (if t133 = true then (some false) else ((glob_Plain.f (⟨#[97, 98]⟩ : ByteArray)).bind fun t134 => (if t134 = true then ((glob_Plain.f (⟨#[97, 63]⟩ : ByteArray)).bind fun t135 => (if t135 = true then (some false) else ((glob_Least.f (⟨#[97, 42, 63]⟩ : ByteArray)).bind fun t136 => (if t136 = 2 then ((glob_Among.f k (⟨#[97, 42]⟩ : ByteArray) (([(⟨#[98]⟩ : ByteArray), (⟨#[97, 98]⟩ : ByteArray)] : List ByteArray))).bind fun t140 => ((secateurref01_SameTexts.f k t140 (([(⟨#[97, 98]⟩ : ByteArray)] : List ByteArray))).bind fun t146 => (some t146))) else (some false))))) else (some false))))) else (some false))))) else (some false))) else (some false))))) = some r := by rw [if_pos rfl] at H; exact H
    clear H
    have H := H1
    clear H1
    replace H := Option.bind_eq_some_iff.mp H
    obtain ⟨t128, A30, H⟩ := H
    replace H : (if t128 = true then (some false) else ((glob_Match.f k (⟨#[97, 63]⟩ : ByteArray) (⟨#[97, 98]⟩ : ByteArray)).bind fun t129 => (if t129 = true then ((glob_Meets.f k (⟨#[97, 63]⟩ : ByteArray) (⟨#[42, 98]⟩ : ByteArray)).bind fun t130 => (if t130 = true then ((glob_Meets.f k (⟨#[97, 63]⟩ : ByteArray) (⟨#[98, 63]⟩ : ByteArray)).bind fun t131 => (if t131 = true then (some false) else ((glob_Right.f k (⟨#[97, 42]⟩ : ByteArray)).bind fun t132 => (if t132 = true then ((glob_Right.f k (⟨#[]⟩ : ByteArray)).bind fun t133 => (if t133 = true then (some false) else ((glob_Plain.f (⟨#[97, 98]⟩ : ByteArray)).bind fun t134 => (if t134 = true then ((glob_Plain.f (⟨#[97, 63]⟩ : ByteArray)).bind fun t135 => (if t135 = true then (some false) else ((glob_Least.f (⟨#[97, 42, 63]⟩ : ByteArray)).bind fun t136 => (if t136 = 2 then ((glob_Among.f k (⟨#[97, 42]⟩ : ByteArray) (([(⟨#[98]⟩ : ByteArray), (⟨#[97, 98]⟩ : ByteArray)] : List ByteArray))).bind fun t140 => ((secateurref01_SameTexts.f k t140 (([(⟨#[97, 98]⟩ : ByteArray)] : List ByteArray))).bind fun t146 => (some t146))) else (some false))))) else (some false))))) else (some false))))) else (some false))) else (some false)))) = some r := H
    have A3 := Aside0.mk A30
    clear A30
    by_cases c4 : t128 = true
    · subst c4
      have H1 : (some false) = some r := by rw [if_pos rfl] at H; exact H
      clear H
      have H := H1
      clear H1
      obtain rfl := Option.some.inj H
      go_enter Try.func9, Try.ntmps9
      go_wp2_with (first | ((with_reducible refine gate_callee (f := 14) rfl ?_); refine goesL_ (some 1) rfl rfl Try.func14 (by kernel_rfl) rfl #[.string (⟨#[97, 42, 99]⟩ : ByteArray), .string (⟨#[97, 98, 98, 99]⟩ : ByteArray)] rfl (by (try simp only [List.map_toArray, List.map_cons, List.map_nil]); first | done | rfl | (simp only [List.length_drop, List.length_take]; rfl)) ?_; (with_reducible refine (glob_Match.calls k (⟨#[97, 42, 99]⟩ : ByteArray) (⟨#[97, 98, 98, 99]⟩ : ByteArray) true _ A1.out).mono ?_); rintro e w' ⟨rfl, ⟨nd, rfl⟩⟩; refine ⟨_, rfl, ?_⟩) | (go_at_call 14; (with_reducible refine (glob_Match.calls k (⟨#[97, 42, 99]⟩ : ByteArray) (⟨#[97, 98]⟩ : ByteArray) true _ A3.out).mono ?_); rintro e w' ⟨rfl, ⟨nd, rfl⟩⟩))
      go_ret
      exact ⟨by first | rfl | (simp [errW_none, errW_some] <;> rfl) | (simp [*, errW_none, errW_some] <;> rfl), by repeat (first | (with_reducible first | exact HB.out | apply below_alloc | apply pw_below_drewN | apply below_drew1) | exact HB.out)⟩
    · replace c4 := Bool.eq_false_iff.mpr c4
      subst c4
      have H1 : ((glob_Match.f k (⟨#[97, 63]⟩ : ByteArray) (⟨#[97, 98]⟩ : ByteArray)).bind fun t129 => (if t129 = true then ((glob_Meets.f k (⟨#[97, 63]⟩ : ByteArray) (⟨#[42, 98]⟩ : ByteArray)).bind fun t130 => (if t130 = true then ((glob_Meets.f k (⟨#[97, 63]⟩ : ByteArray) (⟨#[98, 63]⟩ : ByteArray)).bind fun t131 => (if t131 = true then (some false) else ((glob_Right.f k (⟨#[97, 42]⟩ : ByteArray)).bind fun t132 => (if t132 = true then ((glob_Right.f k (⟨#[]⟩ : ByteArray)).bind fun t133 => (if t133 = true then (some false) else ((glob_Plain.f (⟨#[97, 98]⟩ : ByteArray)).bind fun t134 => (if t134 = true then ((glob_Plain.f (⟨#[97, 63]⟩ : ByteArray)).bind fun t135 => (if t135 = true then (some false) else ((glob_Least.f (⟨#[97, 42, 63]⟩ : ByteArray)).bind fun t136 => (if t136 = 2 then ((glob_Among.f k (⟨#[97, 42]⟩ : ByteArray) (([(⟨#[98]⟩ : ByteArray), (⟨#[97, 98]⟩ : ByteArray)] : List ByteArray))).bind fun t140 => ((secateurref01_SameTexts.f k t140 (([(⟨#[97, 98]⟩ : ByteArray)] : List ByteArray))).bind fun t146 => (some t146))) else (some false))))) else (some false))))) else (some false))))) else (some false))) else (some false))) = some r := by rw [if_neg (show ¬ (false = true) by decide)] at H; exact H
      clear H
      have H := H1
      clear H1
      replace H := Option.bind_eq_some_iff.mp H
      obtain ⟨t129, A50, H⟩ := H
      replace H : (if t129 = true then ((glob_Meets.f k (⟨#[97, 63]⟩ : ByteArray) (⟨#[42, 98]⟩ : ByteArray)).bind fun t130 => (if t130 = true then ((glob_Meets.f k (⟨#[97, 63]⟩ : ByteArray) (⟨#[98, 63]⟩ : ByteArray)).bind fun t131 => (if t131 = true then (some false) else ((glob_Right.f k (⟨#[97, 42]⟩ : ByteArray)).bind fun t132 => (if t132 = true then ((glob_Right.f k (⟨#[]⟩ : ByteArray)).bind fun t133 => (if t133 = true then (some false) else ((glob_Plain.f (⟨#[97, 98]⟩ : ByteArray)).bind fun t134 => (if t134 = true then ((glob_Plain.f (⟨#[97, 63]⟩ : ByteArray)).bind fun t135 => (if t135 = true then (some false) else ((glob_Least.f (⟨#[97, 42, 63]⟩ : ByteArray)).bind fun t136 => (if t136 = 2 then ((glob_Among.f k (⟨#[97, 42]⟩ : ByteArray) (([(⟨#[98]⟩ : ByteArray), (⟨#[97, 98]⟩ : ByteArray)] : List ByteArray))).bind fun t140 => ((secateurref01_SameTexts.f k t140 (([(⟨#[97, 98]⟩ : ByteArray)] : List ByteArray))).bind fun t146 => (some t146))) else (some false))))) else (some false))))) else (some false))))) else (some false))) else (some false)) = some r := H
      have A5 := Aside0.mk A50
      clear A50
      by_cases c6 : t129 = true
      · subst c6
        have H1 : ((glob_Meets.f k (⟨#[97, 63]⟩ : ByteArray) (⟨#[42, 98]⟩ : ByteArray)).bind fun t130 => (if t130 = true then ((glob_Meets.f k (⟨#[97, 63]⟩ : ByteArray) (⟨#[98, 63]⟩ : ByteArray)).bind fun t131 => (if t131 = true then (some false) else ((glob_Right.f k (⟨#[97, 42]⟩ : ByteArray)).bind fun t132 => (if t132 = true then ((glob_Right.f k (⟨#[]⟩ : ByteArray)).bind fun t133 => (if t133 = true then (some false) else ((glob_Plain.f (⟨#[97, 98]⟩ : ByteArray)).bind fun t134 => (if t134 = true then ((glob_Plain.f (⟨#[97, 63]⟩ : ByteArray)).bind fun t135 => (if t135 = true then (some false) else ((glob_Least.f (⟨#[97, 42, 63]⟩ : ByteArray)).bind fun t136 => (if t136 = 2 then ((glob_Among.f k (⟨#[97, 42]⟩ : ByteArray) (([(⟨#[98]⟩ : ByteArray), (⟨#[97, 98]⟩ : ByteArray)] : List ByteArray))).bind fun t140 => ((secateurref01_SameTexts.f k t140 (([(⟨#[97, 98]⟩ : ByteArray)] : List ByteArray))).bind fun t146 => (some t146))) else (some false))))) else (some false))))) else (some false))))) else (some false))) = some r := by rw [if_pos rfl] at H; exact H
        clear H
        have H := H1
        clear H1
        replace H := Option.bind_eq_some_iff.mp H
        obtain ⟨t130, A70, H⟩ := H
        replace H : (if t130 = true then ((glob_Meets.f k (⟨#[97, 63]⟩ : ByteArray) (⟨#[98, 63]⟩ : ByteArray)).bind fun t131 => (if t131 = true then (some false) else ((glob_Right.f k (⟨#[97, 42]⟩ : ByteArray)).bind fun t132 => (if t132 = true then ((glob_Right.f k (⟨#[]⟩ : ByteArray)).bind fun t133 => (if t133 = true then (some false) else ((glob_Plain.f (⟨#[97, 98]⟩ : ByteArray)).bind fun t134 => (if t134 = true then ((glob_Plain.f (⟨#[97, 63]⟩ : ByteArray)).bind fun t135 => (if t135 = true then (some false) else ((glob_Least.f (⟨#[97, 42, 63]⟩ : ByteArray)).bind fun t136 => (if t136 = 2 then ((glob_Among.f k (⟨#[97, 42]⟩ : ByteArray) (([(⟨#[98]⟩ : ByteArray), (⟨#[97, 98]⟩ : ByteArray)] : List ByteArray))).bind fun t140 => ((secateurref01_SameTexts.f k t140 (([(⟨#[97, 98]⟩ : ByteArray)] : List ByteArray))).bind fun t146 => (some t146))) else (some false))))) else (some false))))) else (some false))))) else (some false)) = some r := H
        have A7 := Aside0.mk A70
        clear A70
        by_cases c8 : t130 = true
        · subst c8
          have H1 : ((glob_Meets.f k (⟨#[97, 63]⟩ : ByteArray) (⟨#[98, 63]⟩ : ByteArray)).bind fun t131 => (if t131 = true then (some false) else ((glob_Right.f k (⟨#[97, 42]⟩ : ByteArray)).bind fun t132 => (if t132 = true then ((glob_Right.f k (⟨#[]⟩ : ByteArray)).bind fun t133 => (if t133 = true then (some false) else ((glob_Plain.f (⟨#[97, 98]⟩ : ByteArray)).bind fun t134 => (if t134 = true then ((glob_Plain.f (⟨#[97, 63]⟩ : ByteArray)).bind fun t135 => (if t135 = true then (some false) else ((glob_Least.f (⟨#[97, 42, 63]⟩ : ByteArray)).bind fun t136 => (if t136 = 2 then ((glob_Among.f k (⟨#[97, 42]⟩ : ByteArray) (([(⟨#[98]⟩ : ByteArray), (⟨#[97, 98]⟩ : ByteArray)] : List ByteArray))).bind fun t140 => ((secateurref01_SameTexts.f k t140 (([(⟨#[97, 98]⟩ : ByteArray)] : List ByteArray))).bind fun t146 => (some t146))) else (some false))))) else (some false))))) else (some false))))) = some r := by rw [if_pos rfl] at H; exact H
          clear H
          have H := H1
          clear H1
          replace H := Option.bind_eq_some_iff.mp H
          obtain ⟨t131, A90, H⟩ := H
          replace H : (if t131 = true then (some false) else ((glob_Right.f k (⟨#[97, 42]⟩ : ByteArray)).bind fun t132 => (if t132 = true then ((glob_Right.f k (⟨#[]⟩ : ByteArray)).bind fun t133 => (if t133 = true then (some false) else ((glob_Plain.f (⟨#[97, 98]⟩ : ByteArray)).bind fun t134 => (if t134 = true then ((glob_Plain.f (⟨#[97, 63]⟩ : ByteArray)).bind fun t135 => (if t135 = true then (some false) else ((glob_Least.f (⟨#[97, 42, 63]⟩ : ByteArray)).bind fun t136 => (if t136 = 2 then ((glob_Among.f k (⟨#[97, 42]⟩ : ByteArray) (([(⟨#[98]⟩ : ByteArray), (⟨#[97, 98]⟩ : ByteArray)] : List ByteArray))).bind fun t140 => ((secateurref01_SameTexts.f k t140 (([(⟨#[97, 98]⟩ : ByteArray)] : List ByteArray))).bind fun t146 => (some t146))) else (some false))))) else (some false))))) else (some false)))) = some r := H
          have A9 := Aside0.mk A90
          clear A90
          by_cases c10 : t131 = true
          · subst c10
            have H1 : (some false) = some r := by rw [if_pos rfl] at H; exact H
            clear H
            have H := H1
            clear H1
            obtain rfl := Option.some.inj H
            go_enter Try.func9, Try.ntmps9
            go_wp2_with (first | ((with_reducible refine gate_callee (f := 14) rfl ?_); refine goesL_ (some 1) rfl rfl Try.func14 (by kernel_rfl) rfl #[.string (⟨#[97, 42, 99]⟩ : ByteArray), .string (⟨#[97, 98, 98, 99]⟩ : ByteArray)] rfl (by (try simp only [List.map_toArray, List.map_cons, List.map_nil]); first | done | rfl | (simp only [List.length_drop, List.length_take]; rfl)) ?_; (with_reducible refine (glob_Match.calls k (⟨#[97, 42, 99]⟩ : ByteArray) (⟨#[97, 98, 98, 99]⟩ : ByteArray) true _ A1.out).mono ?_); rintro e w' ⟨rfl, ⟨nd, rfl⟩⟩; refine ⟨_, rfl, ?_⟩) | (go_at_call 14; (with_reducible refine (glob_Match.calls k (⟨#[97, 42, 99]⟩ : ByteArray) (⟨#[97, 98]⟩ : ByteArray) false _ A3.out).mono ?_); rintro e w' ⟨rfl, ⟨nd, rfl⟩⟩) | (go_at_call 14; (with_reducible refine (glob_Match.calls k (⟨#[97, 63]⟩ : ByteArray) (⟨#[97, 98]⟩ : ByteArray) true _ A5.out).mono ?_); rintro e w' ⟨rfl, ⟨nd, rfl⟩⟩) | (go_at_call 21; (with_reducible refine (glob_Meets.calls k (⟨#[97, 63]⟩ : ByteArray) (⟨#[42, 98]⟩ : ByteArray) true _ A7.out).mono ?_); rintro e w11 ⟨rfl, hb⟩; have n0_ := Aside0.mk (below_step (by repeat (first | (with_reducible first | exact HB.out | apply below_alloc | apply pw_below_drewN | apply below_drew1) | exact HB.out)) hb); clear HB; have HB := n0_; clear n0_; (try clear hb); (try clear hb2); (try clear hk); (try clear hi)) | (go_at_call 21; (with_reducible refine (glob_Meets.calls k (⟨#[97, 63]⟩ : ByteArray) (⟨#[98, 63]⟩ : ByteArray) true _ A9.out).mono ?_); rintro e w12 ⟨rfl, hb⟩; have n0_ := Aside0.mk (below_step (by repeat (first | (with_reducible first | exact HB.out | apply below_alloc | apply pw_below_drewN | apply below_drew1) | exact HB.out)) hb); clear HB; have HB := n0_; clear n0_; (try clear hb); (try clear hb2); (try clear hk); (try clear hi)))
            go_ret
            exact ⟨by first | rfl | (simp [errW_none, errW_some] <;> rfl) | (simp [*, errW_none, errW_some] <;> rfl), by repeat (first | (with_reducible first | exact HB.out | apply below_alloc | apply pw_below_drewN | apply below_drew1) | exact HB.out)⟩
          · replace c10 := Bool.eq_false_iff.mpr c10
            subst c10
            have H1 : ((glob_Right.f k (⟨#[97, 42]⟩ : ByteArray)).bind fun t132 => (if t132 = true then ((glob_Right.f k (⟨#[]⟩ : ByteArray)).bind fun t133 => (if t133 = true then (some false) else ((glob_Plain.f (⟨#[97, 98]⟩ : ByteArray)).bind fun t134 => (if t134 = true then ((glob_Plain.f (⟨#[97, 63]⟩ : ByteArray)).bind fun t135 => (if t135 = true then (some false) else ((glob_Least.f (⟨#[97, 42, 63]⟩ : ByteArray)).bind fun t136 => (if t136 = 2 then ((glob_Among.f k (⟨#[97, 42]⟩ : ByteArray) (([(⟨#[98]⟩ : ByteArray), (⟨#[97, 98]⟩ : ByteArray)] : List ByteArray))).bind fun t140 => ((secateurref01_SameTexts.f k t140 (([(⟨#[97, 98]⟩ : ByteArray)] : List ByteArray))).bind fun t146 => (some t146))) else (some false))))) else (some false))))) else (some false))) = some r := by rw [if_neg (show ¬ (false = true) by decide)] at H; exact H
            clear H
            have H := H1
            clear H1
            replace H := Option.bind_eq_some_iff.mp H
            obtain ⟨t132, A130, H⟩ := H
            replace H : (if t132 = true then ((glob_Right.f k (⟨#[]⟩ : ByteArray)).bind fun t133 => (if t133 = true then (some false) else ((glob_Plain.f (⟨#[97, 98]⟩ : ByteArray)).bind fun t134 => (if t134 = true then ((glob_Plain.f (⟨#[97, 63]⟩ : ByteArray)).bind fun t135 => (if t135 = true then (some false) else ((glob_Least.f (⟨#[97, 42, 63]⟩ : ByteArray)).bind fun t136 => (if t136 = 2 then ((glob_Among.f k (⟨#[97, 42]⟩ : ByteArray) (([(⟨#[98]⟩ : ByteArray), (⟨#[97, 98]⟩ : ByteArray)] : List ByteArray))).bind fun t140 => ((secateurref01_SameTexts.f k t140 (([(⟨#[97, 98]⟩ : ByteArray)] : List ByteArray))).bind fun t146 => (some t146))) else (some false))))) else (some false))))) else (some false)) = some r := H
            have A13 := Aside0.mk A130
            clear A130
            by_cases c14 : t132 = true
            · subst c14
              have H1 : ((glob_Right.f k (⟨#[]⟩ : ByteArray)).bind fun t133 => (if t133 = true then (some false) else ((glob_Plain.f (⟨#[97, 98]⟩ : ByteArray)).bind fun t134 => (if t134 = true then ((glob_Plain.f (⟨#[97, 63]⟩ : ByteArray)).bind fun t135 => (if t135 = true then (some false) else ((glob_Least.f (⟨#[97, 42, 63]⟩ : ByteArray)).bind fun t136 => (if t136 = 2 then ((glob_Among.f k (⟨#[97, 42]⟩ : ByteArray) (([(⟨#[98]⟩ : ByteArray), (⟨#[97, 98]⟩ : ByteArray)] : List ByteArray))).bind fun t140 => ((secateurref01_SameTexts.f k t140 (([(⟨#[97, 98]⟩ : ByteArray)] : List ByteArray))).bind fun t146 => (some t146))) else (some false))))) else (some false))))) = some r := by rw [if_pos rfl] at H; exact H
              clear H
              have H := H1
              clear H1
              replace H := Option.bind_eq_some_iff.mp H
              obtain ⟨t133, A150, H⟩ := H
              replace H : (if t133 = true then (some false) else ((glob_Plain.f (⟨#[97, 98]⟩ : ByteArray)).bind fun t134 => (if t134 = true then ((glob_Plain.f (⟨#[97, 63]⟩ : ByteArray)).bind fun t135 => (if t135 = true then (some false) else ((glob_Least.f (⟨#[97, 42, 63]⟩ : ByteArray)).bind fun t136 => (if t136 = 2 then ((glob_Among.f k (⟨#[97, 42]⟩ : ByteArray) (([(⟨#[98]⟩ : ByteArray), (⟨#[97, 98]⟩ : ByteArray)] : List ByteArray))).bind fun t140 => ((secateurref01_SameTexts.f k t140 (([(⟨#[97, 98]⟩ : ByteArray)] : List ByteArray))).bind fun t146 => (some t146))) else (some false))))) else (some false)))) = some r := H
              have A15 := Aside0.mk A150
              clear A150
              by_cases c16 : t133 = true
              · subst c16
                have H1 : (some false) = some r := by rw [if_pos rfl] at H; exact H
                clear H
                have H := H1
                clear H1
                obtain rfl := Option.some.inj H
                go_enter Try.func9, Try.ntmps9
                go_wp2_with (first | ((with_reducible refine gate_callee (f := 14) rfl ?_); refine goesL_ (some 1) rfl rfl Try.func14 (by kernel_rfl) rfl #[.string (⟨#[97, 42, 99]⟩ : ByteArray), .string (⟨#[97, 98, 98, 99]⟩ : ByteArray)] rfl (by (try simp only [List.map_toArray, List.map_cons, List.map_nil]); first | done | rfl | (simp only [List.length_drop, List.length_take]; rfl)) ?_; (with_reducible refine (glob_Match.calls k (⟨#[97, 42, 99]⟩ : ByteArray) (⟨#[97, 98, 98, 99]⟩ : ByteArray) true _ A1.out).mono ?_); rintro e w' ⟨rfl, ⟨nd, rfl⟩⟩; refine ⟨_, rfl, ?_⟩) | (go_at_call 14; (with_reducible refine (glob_Match.calls k (⟨#[97, 42, 99]⟩ : ByteArray) (⟨#[97, 98]⟩ : ByteArray) false _ A3.out).mono ?_); rintro e w' ⟨rfl, ⟨nd, rfl⟩⟩) | (go_at_call 14; (with_reducible refine (glob_Match.calls k (⟨#[97, 63]⟩ : ByteArray) (⟨#[97, 98]⟩ : ByteArray) true _ A5.out).mono ?_); rintro e w' ⟨rfl, ⟨nd, rfl⟩⟩) | (go_at_call 21; (with_reducible refine (glob_Meets.calls k (⟨#[97, 63]⟩ : ByteArray) (⟨#[42, 98]⟩ : ByteArray) true _ A7.out).mono ?_); rintro e w17 ⟨rfl, hb⟩; have n0_ := Aside0.mk (below_step (by repeat (first | (with_reducible first | exact HB.out | apply below_alloc | apply pw_below_drewN | apply below_drew1) | exact HB.out)) hb); clear HB; have HB := n0_; clear n0_; (try clear hb); (try clear hb2); (try clear hk); (try clear hi)) | (go_at_call 21; (with_reducible refine (glob_Meets.calls k (⟨#[97, 63]⟩ : ByteArray) (⟨#[98, 63]⟩ : ByteArray) false _ A9.out).mono ?_); rintro e w18 ⟨rfl, hb⟩; have n0_ := Aside0.mk (below_step (by repeat (first | (with_reducible first | exact HB.out | apply below_alloc | apply pw_below_drewN | apply below_drew1) | exact HB.out)) hb); clear HB; have HB := n0_; clear n0_; (try clear hb); (try clear hb2); (try clear hk); (try clear hi)) | (go_at_call 10; (with_reducible refine (glob_Right.calls k (⟨#[97, 42]⟩ : ByteArray) true _ A13.out).mono ?_); rintro e w' ⟨rfl, ⟨nd, rfl⟩⟩) | (go_at_call 10; (with_reducible refine (glob_Right.calls k (⟨#[]⟩ : ByteArray) true _ A15.out).mono ?_); rintro e w' ⟨rfl, ⟨nd, rfl⟩⟩))
                go_ret
                exact ⟨by first | rfl | (simp [errW_none, errW_some] <;> rfl) | (simp [*, errW_none, errW_some] <;> rfl), by repeat (first | (with_reducible first | exact HB.out | apply below_alloc | apply pw_below_drewN | apply below_drew1) | exact HB.out)⟩
              · replace c16 := Bool.eq_false_iff.mpr c16
                subst c16
                have H1 : ((glob_Plain.f (⟨#[97, 98]⟩ : ByteArray)).bind fun t134 => (if t134 = true then ((glob_Plain.f (⟨#[97, 63]⟩ : ByteArray)).bind fun t135 => (if t135 = true then (some false) else ((glob_Least.f (⟨#[97, 42, 63]⟩ : ByteArray)).bind fun t136 => (if t136 = 2 then ((glob_Among.f k (⟨#[97, 42]⟩ : ByteArray) (([(⟨#[98]⟩ : ByteArray), (⟨#[97, 98]⟩ : ByteArray)] : List ByteArray))).bind fun t140 => ((secateurref01_SameTexts.f k t140 (([(⟨#[97, 98]⟩ : ByteArray)] : List ByteArray))).bind fun t146 => (some t146))) else (some false))))) else (some false))) = some r := by rw [if_neg (show ¬ (false = true) by decide)] at H; exact H
                clear H
                have H := H1
                clear H1
                replace H := Option.bind_eq_some_iff.mp H
                obtain ⟨t134, A190, H⟩ := H
                replace H : (if t134 = true then ((glob_Plain.f (⟨#[97, 63]⟩ : ByteArray)).bind fun t135 => (if t135 = true then (some false) else ((glob_Least.f (⟨#[97, 42, 63]⟩ : ByteArray)).bind fun t136 => (if t136 = 2 then ((glob_Among.f k (⟨#[97, 42]⟩ : ByteArray) (([(⟨#[98]⟩ : ByteArray), (⟨#[97, 98]⟩ : ByteArray)] : List ByteArray))).bind fun t140 => ((secateurref01_SameTexts.f k t140 (([(⟨#[97, 98]⟩ : ByteArray)] : List ByteArray))).bind fun t146 => (some t146))) else (some false))))) else (some false)) = some r := H
                have A19 := Aside0.mk A190
                clear A190
                by_cases c20 : t134 = true
                · subst c20
                  have H1 : ((glob_Plain.f (⟨#[97, 63]⟩ : ByteArray)).bind fun t135 => (if t135 = true then (some false) else ((glob_Least.f (⟨#[97, 42, 63]⟩ : ByteArray)).bind fun t136 => (if t136 = 2 then ((glob_Among.f k (⟨#[97, 42]⟩ : ByteArray) (([(⟨#[98]⟩ : ByteArray), (⟨#[97, 98]⟩ : ByteArray)] : List ByteArray))).bind fun t140 => ((secateurref01_SameTexts.f k t140 (([(⟨#[97, 98]⟩ : ByteArray)] : List ByteArray))).bind fun t146 => (some t146))) else (some false))))) = some r := by rw [if_pos rfl] at H; exact H
                  clear H
                  have H := H1
                  clear H1
                  replace H := Option.bind_eq_some_iff.mp H
                  obtain ⟨t135, A210, H⟩ := H
                  replace H : (if t135 = true then (some false) else ((glob_Least.f (⟨#[97, 42, 63]⟩ : ByteArray)).bind fun t136 => (if t136 = 2 then ((glob_Among.f k (⟨#[97, 42]⟩ : ByteArray) (([(⟨#[98]⟩ : ByteArray), (⟨#[97, 98]⟩ : ByteArray)] : List ByteArray))).bind fun t140 => ((secateurref01_SameTexts.f k t140 (([(⟨#[97, 98]⟩ : ByteArray)] : List ByteArray))).bind fun t146 => (some t146))) else (some false)))) = some r := H
                  have A21 := Aside0.mk A210
                  clear A210
                  by_cases c22 : t135 = true
                  · subst c22
                    have H1 : (some false) = some r := by rw [if_pos rfl] at H; exact H
                    clear H
                    have H := H1
                    clear H1
                    obtain rfl := Option.some.inj H
                    go_enter Try.func9, Try.ntmps9
                    go_wp2_with (first | ((with_reducible refine gate_callee (f := 14) rfl ?_); refine goesL_ (some 1) rfl rfl Try.func14 (by kernel_rfl) rfl #[.string (⟨#[97, 42, 99]⟩ : ByteArray), .string (⟨#[97, 98, 98, 99]⟩ : ByteArray)] rfl (by (try simp only [List.map_toArray, List.map_cons, List.map_nil]); first | done | rfl | (simp only [List.length_drop, List.length_take]; rfl)) ?_; (with_reducible refine (glob_Match.calls k (⟨#[97, 42, 99]⟩ : ByteArray) (⟨#[97, 98, 98, 99]⟩ : ByteArray) true _ A1.out).mono ?_); rintro e w' ⟨rfl, ⟨nd, rfl⟩⟩; refine ⟨_, rfl, ?_⟩) | (go_at_call 14; (with_reducible refine (glob_Match.calls k (⟨#[97, 42, 99]⟩ : ByteArray) (⟨#[97, 98]⟩ : ByteArray) false _ A3.out).mono ?_); rintro e w' ⟨rfl, ⟨nd, rfl⟩⟩) | (go_at_call 14; (with_reducible refine (glob_Match.calls k (⟨#[97, 63]⟩ : ByteArray) (⟨#[97, 98]⟩ : ByteArray) true _ A5.out).mono ?_); rintro e w' ⟨rfl, ⟨nd, rfl⟩⟩) | (go_at_call 21; (with_reducible refine (glob_Meets.calls k (⟨#[97, 63]⟩ : ByteArray) (⟨#[42, 98]⟩ : ByteArray) true _ A7.out).mono ?_); rintro e w23 ⟨rfl, hb⟩; have n0_ := Aside0.mk (below_step (by repeat (first | (with_reducible first | exact HB.out | apply below_alloc | apply pw_below_drewN | apply below_drew1) | exact HB.out)) hb); clear HB; have HB := n0_; clear n0_; (try clear hb); (try clear hb2); (try clear hk); (try clear hi)) | (go_at_call 21; (with_reducible refine (glob_Meets.calls k (⟨#[97, 63]⟩ : ByteArray) (⟨#[98, 63]⟩ : ByteArray) false _ A9.out).mono ?_); rintro e w24 ⟨rfl, hb⟩; have n0_ := Aside0.mk (below_step (by repeat (first | (with_reducible first | exact HB.out | apply below_alloc | apply pw_below_drewN | apply below_drew1) | exact HB.out)) hb); clear HB; have HB := n0_; clear n0_; (try clear hb); (try clear hb2); (try clear hk); (try clear hi)) | (go_at_call 10; (with_reducible refine (glob_Right.calls k (⟨#[97, 42]⟩ : ByteArray) true _ A13.out).mono ?_); rintro e w' ⟨rfl, ⟨nd, rfl⟩⟩) | (go_at_call 10; (with_reducible refine (glob_Right.calls k (⟨#[]⟩ : ByteArray) false _ A15.out).mono ?_); rintro e w' ⟨rfl, ⟨nd, rfl⟩⟩) | (go_at_call 12; (with_reducible refine (glob_Plain.calls (⟨#[97, 98]⟩ : ByteArray) true _ A19.out).mono ?_); rintro e w25 ⟨rfl, hb⟩; have n0_ := Aside0.mk (below_step (by repeat (first | (with_reducible first | exact HB.out | apply below_alloc | apply pw_below_drewN | apply below_drew1) | exact HB.out)) hb); clear HB; have HB := n0_; clear n0_; (try clear hb); (try clear hb2); (try clear hk); (try clear hi)) | (go_at_call 12; (with_reducible refine (glob_Plain.calls (⟨#[97, 63]⟩ : ByteArray) true _ A21.out).mono ?_); rintro e w26 ⟨rfl, hb⟩; have n0_ := Aside0.mk (below_step (by repeat (first | (with_reducible first | exact HB.out | apply below_alloc | apply pw_below_drewN | apply below_drew1) | exact HB.out)) hb); clear HB; have HB := n0_; clear n0_; (try clear hb); (try clear hb2); (try clear hk); (try clear hi)))
                    go_ret
                    exact ⟨by first | rfl | (simp [errW_none, errW_some] <;> rfl) | (simp [*, errW_none, errW_some] <;> rfl), by repeat (first | (with_reducible first | exact HB.out | apply below_alloc | apply pw_below_drewN | apply below_drew1) | exact HB.out)⟩
                  · replace c22 := Bool.eq_false_iff.mpr c22
                    subst c22
                    have H1 : ((glob_Least.f (⟨#[97, 42, 63]⟩ : ByteArray)).bind fun t136 => (if t136 = 2 then ((glob_Among.f k (⟨#[97, 42]⟩ : ByteArray) (([(⟨#[98]⟩ : ByteArray), (⟨#[97, 98]⟩ : ByteArray)] : List ByteArray))).bind fun t140 => ((secateurref01_SameTexts.f k t140 (([(⟨#[97, 98]⟩ : ByteArray)] : List ByteArray))).bind fun t146 => (some t146))) else (some false))) = some r := by rw [if_neg (show ¬ (false = true) by decide)] at H; exact H
                    clear H
                    have H := H1
                    clear H1
                    replace H := Option.bind_eq_some_iff.mp H
                    obtain ⟨t136, A270, H⟩ := H
                    replace H : (if t136 = 2 then ((glob_Among.f k (⟨#[97, 42]⟩ : ByteArray) (([(⟨#[98]⟩ : ByteArray), (⟨#[97, 98]⟩ : ByteArray)] : List ByteArray))).bind fun t140 => ((secateurref01_SameTexts.f k t140 (([(⟨#[97, 98]⟩ : ByteArray)] : List ByteArray))).bind fun t146 => (some t146))) else (some false)) = some r := H
                    have A27 := Aside0.mk A270
                    clear A270
                    by_cases c28 : t136 = 2
                    · rw [if_pos c28] at H
                      have c28b0 : (t136 == 2) = true := beq_iff_eq.mpr c28
                      have c28b1 : (t136 != 2) = false := bne_eq_false_iff_eq.mpr c28
                      clear c28
                      obtain ⟨y137, hy137⟩ : ∃ y_ : List ByteArray, y_ = (([(⟨#[98]⟩ : ByteArray), (⟨#[97, 98]⟩ : ByteArray)] : List ByteArray)) := ⟨_, rfl⟩
                      replace H : ((glob_Among.f k (⟨#[97, 42]⟩ : ByteArray) y137).bind fun t140 => ((secateurref01_SameTexts.f k t140 (([(⟨#[97, 98]⟩ : ByteArray)] : List ByteArray))).bind fun t146 => (some t146))) = some r := by first | (rw [hy137]; with_reducible exact H) | (have H2_ := (Option.bind_some _ _).symm.trans H; rw [hy137]; with_reducible exact H2_) | (have H2_ := (Option.bind_some _ _).symm.trans H; with_reducible exact H2_) | with_reducible exact H | (rw [hy137]; exact H) | exact H
                      have Ny137 := Aside0.mk hy137
                      clear hy137
                      replace H := Option.bind_eq_some_iff.mp H
                      obtain ⟨t140, A290, H⟩ := H
                      replace H : ((secateurref01_SameTexts.f k t140 (([(⟨#[97, 98]⟩ : ByteArray)] : List ByteArray))).bind fun t146 => (some t146)) = some r := H
                      have A29 := Aside0.mk A290
                      clear A290
                      obtain ⟨y143, hy143⟩ : ∃ y_ : List ByteArray, y_ = (([(⟨#[97, 98]⟩ : ByteArray)] : List ByteArray)) := ⟨_, rfl⟩
                      replace H : ((secateurref01_SameTexts.f k t140 y143).bind fun t146 => (some t146)) = some r := by first | (rw [hy143]; with_reducible exact H) | (have H2_ := (Option.bind_some _ _).symm.trans H; rw [hy143]; with_reducible exact H2_) | (have H2_ := (Option.bind_some _ _).symm.trans H; with_reducible exact H2_) | with_reducible exact H | (rw [hy143]; exact H) | exact H
                      have Ny143 := Aside0.mk hy143
                      clear hy143
                      replace H := Option.bind_eq_some_iff.mp H
                      obtain ⟨t146, A300, H⟩ := H
                      replace H : (some t146) = some r := H
                      have A30 := Aside0.mk A300
                      clear A300
                      obtain rfl := Option.some.inj H
                      go_enter Try.func9, Try.ntmps9
                      go_wp2_with (first | ((with_reducible refine gate_callee (f := 14) rfl ?_); refine goesL_ (some 1) rfl rfl Try.func14 (by kernel_rfl) rfl #[.string (⟨#[97, 42, 99]⟩ : ByteArray), .string (⟨#[97, 98, 98, 99]⟩ : ByteArray)] rfl (by (try simp only [List.map_toArray, List.map_cons, List.map_nil]); first | done | rfl | (simp only [List.length_drop, List.length_take]; rfl)) ?_; (with_reducible refine (glob_Match.calls k (⟨#[97, 42, 99]⟩ : ByteArray) (⟨#[97, 98, 98, 99]⟩ : ByteArray) true _ A1.out).mono ?_); rintro e w' ⟨rfl, ⟨nd, rfl⟩⟩; refine ⟨_, rfl, ?_⟩) | (go_at_call 14; (with_reducible refine (glob_Match.calls k (⟨#[97, 42, 99]⟩ : ByteArray) (⟨#[97, 98]⟩ : ByteArray) false _ A3.out).mono ?_); rintro e w' ⟨rfl, ⟨nd, rfl⟩⟩) | (go_at_call 14; (with_reducible refine (glob_Match.calls k (⟨#[97, 63]⟩ : ByteArray) (⟨#[97, 98]⟩ : ByteArray) true _ A5.out).mono ?_); rintro e w' ⟨rfl, ⟨nd, rfl⟩⟩) | (go_at_call 21; (with_reducible refine (glob_Meets.calls k (⟨#[97, 63]⟩ : ByteArray) (⟨#[42, 98]⟩ : ByteArray) true _ A7.out).mono ?_); rintro e w31 ⟨rfl, hb⟩; have n0_ := Aside0.mk (below_step (by repeat (first | (with_reducible first | exact HB.out | apply below_alloc | apply pw_below_drewN | apply below_drew1) | exact HB.out)) hb); clear HB; have HB := n0_; clear n0_; (try clear hb); (try clear hb2); (try clear hk); (try clear hi)) | (go_at_call 21; (with_reducible refine (glob_Meets.calls k (⟨#[97, 63]⟩ : ByteArray) (⟨#[98, 63]⟩ : ByteArray) false _ A9.out).mono ?_); rintro e w32 ⟨rfl, hb⟩; have n0_ := Aside0.mk (below_step (by repeat (first | (with_reducible first | exact HB.out | apply below_alloc | apply pw_below_drewN | apply below_drew1) | exact HB.out)) hb); clear HB; have HB := n0_; clear n0_; (try clear hb); (try clear hb2); (try clear hk); (try clear hi)) | (go_at_call 10; (with_reducible refine (glob_Right.calls k (⟨#[97, 42]⟩ : ByteArray) true _ A13.out).mono ?_); rintro e w' ⟨rfl, ⟨nd, rfl⟩⟩) | (go_at_call 10; (with_reducible refine (glob_Right.calls k (⟨#[]⟩ : ByteArray) false _ A15.out).mono ?_); rintro e w' ⟨rfl, ⟨nd, rfl⟩⟩) | (go_at_call 12; (with_reducible refine (glob_Plain.calls (⟨#[97, 98]⟩ : ByteArray) true _ A19.out).mono ?_); rintro e w33 ⟨rfl, hb⟩; have n0_ := Aside0.mk (below_step (by repeat (first | (with_reducible first | exact HB.out | apply below_alloc | apply pw_below_drewN | apply below_drew1) | exact HB.out)) hb); clear HB; have HB := n0_; clear n0_; (try clear hb); (try clear hb2); (try clear hk); (try clear hi)) | (go_at_call 12; (with_reducible refine (glob_Plain.calls (⟨#[97, 63]⟩ : ByteArray) false _ A21.out).mono ?_); rintro e w34 ⟨rfl, hb⟩; have n0_ := Aside0.mk (below_step (by repeat (first | (with_reducible first | exact HB.out | apply below_alloc | apply pw_below_drewN | apply below_drew1) | exact HB.out)) hb); clear HB; have HB := n0_; clear n0_; (try clear hb); (try clear hb2); (try clear hk); (try clear hi)) | (go_at_call 16; (with_reducible refine (glob_Least.calls (⟨#[97, 42, 63]⟩ : ByteArray) t136 _ A27.out).mono ?_); rintro e w' ⟨rfl, ⟨nd, rfl⟩⟩) | ((with_reducible refine gate_dst (N := 35) rfl ?_); (try (refine gate_guard (by rfl) ?_; dsimp only)); refine Kd.R_lit Kd.string _ 9 ?hg (N := 35) ?hd (xs := ([(⟨#[98]⟩ : ByteArray), (⟨#[97, 98]⟩ : ByteArray)] : List ByteArray)) (inner := [.string (⟨#[98]⟩ : ByteArray), .string (⟨#[97, 98]⟩ : ByteArray)]) (ok := fun _ => True) (okp := fun _ => True) ?hr ?hp (fun _ hk => hk) trivial (Below.refl _ _) (Nat.le_refl _) (by simp) ?_; (case hd => rfl); (case hg => rfl); (case hr => first | (go_simp; done) | (go_simp; rfl)); (case hp => exact (Reps.one (show Kd.M Kd.string _ _ _ (⟨#[98]⟩ : ByteArray) [.string (⟨#[98]⟩ : ByteArray)] from rfl) (Reps.one (show Kd.M Kd.string _ _ _ (⟨#[97, 98]⟩ : ByteArray) [.string (⟨#[97, 98]⟩ : ByteArray)] from rfl) (Reps.none _ _)))); intro v138 w35 ho36 hb hg_ hnew_; clear hg_ hnew_; (first | rw [← Ny137.out] at ho36 | (simp only [Int.reduceToNat] at ho36; rw [← Ny137.out] at ho36)); have n0_ := Aside0.mk (Kd.R_lower ho36 (below_size (by repeat (first | (with_reducible first | exact HB.out | apply below_alloc | apply pw_below_drewN | apply below_drew1) | exact HB.out)))); have n1_ := Aside0.mk (below_step (by repeat (first | (with_reducible first | exact HB.out | apply below_alloc | apply pw_below_drewN | apply below_drew1) | exact HB.out)) hb); clear HB; have HO139 := n0_; have HB := n1_; clear n0_ n1_; clear hb ho36; obtain ⟨Ao37, co37, eo37⟩ := Kd.R_slice HO139.out; subst eo37) | (go_at_call 19; (with_reducible refine (glob_Among.calls k (⟨#[97, 42]⟩ : ByteArray) _ _ y137 t140 _ ?side1 ?side2 A29.out).mono ?_); (case side1 => repeat (first | exact (Kd.R_reads' HO139.out).2.2 | (with_reducible refine Kd.C_alloc ?_ _) | (with_reducible refine Kd.C_drewN ?_ _) | (with_reducible refine Kd.C_drew ?_))); (case side2 => exact (Kd.R_reads' HO139.out).2.1); rintro e w38 ⟨v141, rfl, ho0, hb⟩; have n0_ := Aside0.mk (Kd.R_elder' (by (with_reducible repeat (first | apply Kd.R_alloc | apply Kd.R_drewN | apply Kd.R_drew)); exact HO139.out) (Kd.R_base ho0) hb); have n1_ := Aside0.mk (Kd.R_lower (Kd.R_new' ho0 (Kd.R_lt (by (with_reducible repeat (first | apply Kd.R_alloc | apply Kd.R_drewN | apply Kd.R_drew)); exact HO139.out))) (below_size (by repeat (first | (with_reducible first | exact HB.out | apply below_alloc | apply pw_below_drewN | apply below_drew1) | exact HB.out)))); have n2_ := Aside0.mk (below_step (by repeat (first | (with_reducible first | exact HB.out | apply below_alloc | apply pw_below_drewN | apply below_drew1) | exact HB.out)) hb); clear HO139; clear HB; have HO139 := n0_; have HO142 := n1_; have HB := n2_; clear n0_ n1_ n2_; (try clear hb); (try clear hb2); (try clear hk); (try clear hi); (try clear ho0)) | ((with_reducible refine gate_dst (N := 37) rfl ?_); (try (refine gate_guard (by rfl) ?_; dsimp only)); refine Kd.R_lit Kd.string _ 9 ?hg (N := 37) ?hd (xs := ([(⟨#[97, 98]⟩ : ByteArray)] : List ByteArray)) (inner := [.string (⟨#[97, 98]⟩ : ByteArray)]) (ok := fun _ => True) (okp := fun _ => True) ?hr ?hp (fun _ hk => hk) trivial (Below.refl _ _) (Nat.le_refl _) (by simp) ?_; (case hd => rfl); (case hg => rfl); (case hr => first | (go_simp; done) | (go_simp; rfl)); (case hp => exact (Reps.one (show Kd.M Kd.string _ _ _ (⟨#[97, 98]⟩ : ByteArray) [.string (⟨#[97, 98]⟩ : ByteArray)] from rfl) (Reps.none _ _))); intro v144 w39 ho40 hb hg_ hnew_; clear hg_ hnew_; (first | rw [← Ny143.out] at ho40 | (simp only [Int.reduceToNat] at ho40; rw [← Ny143.out] at ho40)); have n0_ := Aside0.mk (Kd.R_elder' (by (with_reducible repeat (first | apply Kd.R_alloc | apply Kd.R_drewN | apply Kd.R_drew)); exact HO139.out) (Kd.R_base ho40) hb); have n1_ := Aside0.mk (Kd.R_elder' (by (with_reducible repeat (first | apply Kd.R_alloc | apply Kd.R_drewN | apply Kd.R_drew)); exact HO142.out) (Kd.R_base ho40) hb); have n2_ := Aside0.mk (Kd.R_lower (Kd.R_new' (Kd.R_new' ho40 (Kd.R_lt (by (with_reducible repeat (first | apply Kd.R_alloc | apply Kd.R_drewN | apply Kd.R_drew)); exact HO139.out))) (Kd.R_lt (by (with_reducible repeat (first | apply Kd.R_alloc | apply Kd.R_drewN | apply Kd.R_drew)); exact HO142.out))) (below_size (by repeat (first | (with_reducible first | exact HB.out | apply below_alloc | apply pw_below_drewN | apply below_drew1) | exact HB.out)))); have n3_ := Aside0.mk (below_step (by repeat (first | (with_reducible first | exact HB.out | apply below_alloc | apply pw_below_drewN | apply below_drew1) | exact HB.out)) hb); clear HO139; clear HO142; clear HB; have HO139 := n0_; have HO142 := n1_; have HO145 := n2_; have HB := n3_; clear n0_ n1_ n2_ n3_; clear hb ho40; obtain ⟨Ao41, co41, eo41⟩ := Kd.R_slice HO142.out; subst eo41; obtain ⟨Ao42, co42, eo42⟩ := Kd.R_slice HO145.out; subst eo42) | (go_at_call 18; (with_reducible refine (secateurref01_SameTexts.calls k _ _ t140 _ _ y143 t146 _ ?side1 ?side2 ?side3 ?side4 A30.out).mono ?_); (case side1 => repeat (first | exact (Kd.R_reads' HO142.out).2.2 | (with_reducible refine Kd.C_alloc ?_ _) | (with_reducible refine Kd.C_drewN ?_ _) | (with_reducible refine Kd.C_drew ?_))); (case side2 => exact (Kd.R_reads' HO142.out).2.1); (case side3 => repeat (first | exact (Kd.R_reads' HO145.out).2.2 | (with_reducible refine Kd.C_alloc ?_ _) | (with_reducible refine Kd.C_drewN ?_ _) | (with_reducible refine Kd.C_drew ?_))); (case side4 => exact (Kd.R_reads' HO145.out).2.1); rintro e w' ⟨rfl, ⟨nd, rfl⟩⟩))
                      go_ret
                      exact ⟨by first | rfl | (simp [errW_none, errW_some] <;> rfl) | (simp [*, errW_none, errW_some] <;> rfl), by repeat (first | (with_reducible first | exact HB.out | apply below_alloc | apply pw_below_drewN | apply below_drew1) | exact HB.out)⟩
                    · rw [if_neg c28] at H
                      have c28b0 : (t136 == 2) = false := beq_eq_false_iff_ne.mpr c28
                      have c28b1 : (t136 != 2) = true := bne_iff_ne.mpr c28
                      obtain rfl := Option.some.inj H
                      go_enter Try.func9, Try.ntmps9
                      go_wp2_with (first | ((with_reducible refine gate_callee (f := 14) rfl ?_); refine goesL_ (some 1) rfl rfl Try.func14 (by kernel_rfl) rfl #[.string (⟨#[97, 42, 99]⟩ : ByteArray), .string (⟨#[97, 98, 98, 99]⟩ : ByteArray)] rfl (by (try simp only [List.map_toArray, List.map_cons, List.map_nil]); first | done | rfl | (simp only [List.length_drop, List.length_take]; rfl)) ?_; (with_reducible refine (glob_Match.calls k (⟨#[97, 42, 99]⟩ : ByteArray) (⟨#[97, 98, 98, 99]⟩ : ByteArray) true _ A1.out).mono ?_); rintro e w' ⟨rfl, ⟨nd, rfl⟩⟩; refine ⟨_, rfl, ?_⟩) | (go_at_call 14; (with_reducible refine (glob_Match.calls k (⟨#[97, 42, 99]⟩ : ByteArray) (⟨#[97, 98]⟩ : ByteArray) false _ A3.out).mono ?_); rintro e w' ⟨rfl, ⟨nd, rfl⟩⟩) | (go_at_call 14; (with_reducible refine (glob_Match.calls k (⟨#[97, 63]⟩ : ByteArray) (⟨#[97, 98]⟩ : ByteArray) true _ A5.out).mono ?_); rintro e w' ⟨rfl, ⟨nd, rfl⟩⟩) | (go_at_call 21; (with_reducible refine (glob_Meets.calls k (⟨#[97, 63]⟩ : ByteArray) (⟨#[42, 98]⟩ : ByteArray) true _ A7.out).mono ?_); rintro e w43 ⟨rfl, hb⟩; have n0_ := Aside0.mk (below_step (by repeat (first | (with_reducible first | exact HB.out | apply below_alloc | apply pw_below_drewN | apply below_drew1) | exact HB.out)) hb); clear HB; have HB := n0_; clear n0_; (try clear hb); (try clear hb2); (try clear hk); (try clear hi)) | (go_at_call 21; (with_reducible refine (glob_Meets.calls k (⟨#[97, 63]⟩ : ByteArray) (⟨#[98, 63]⟩ : ByteArray) false _ A9.out).mono ?_); rintro e w44 ⟨rfl, hb⟩; have n0_ := Aside0.mk (below_step (by repeat (first | (with_reducible first | exact HB.out | apply below_alloc | apply pw_below_drewN | apply below_drew1) | exact HB.out)) hb); clear HB; have HB := n0_; clear n0_; (try clear hb); (try clear hb2); (try clear hk); (try clear hi)) | (go_at_call 10; (with_reducible refine (glob_Right.calls k (⟨#[97, 42]⟩ : ByteArray) true _ A13.out).mono ?_); rintro e w' ⟨rfl, ⟨nd, rfl⟩⟩) | (go_at_call 10; (with_reducible refine (glob_Right.calls k (⟨#[]⟩ : ByteArray) false _ A15.out).mono ?_); rintro e w' ⟨rfl, ⟨nd, rfl⟩⟩) | (go_at_call 12; (with_reducible refine (glob_Plain.calls (⟨#[97, 98]⟩ : ByteArray) true _ A19.out).mono ?_); rintro e w45 ⟨rfl, hb⟩; have n0_ := Aside0.mk (below_step (by repeat (first | (with_reducible first | exact HB.out | apply below_alloc | apply pw_below_drewN | apply below_drew1) | exact HB.out)) hb); clear HB; have HB := n0_; clear n0_; (try clear hb); (try clear hb2); (try clear hk); (try clear hi)) | (go_at_call 12; (with_reducible refine (glob_Plain.calls (⟨#[97, 63]⟩ : ByteArray) false _ A21.out).mono ?_); rintro e w46 ⟨rfl, hb⟩; have n0_ := Aside0.mk (below_step (by repeat (first | (with_reducible first | exact HB.out | apply below_alloc | apply pw_below_drewN | apply below_drew1) | exact HB.out)) hb); clear HB; have HB := n0_; clear n0_; (try clear hb); (try clear hb2); (try clear hk); (try clear hi)) | (go_at_call 16; (with_reducible refine (glob_Least.calls (⟨#[97, 42, 63]⟩ : ByteArray) t136 _ A27.out).mono ?_); rintro e w' ⟨rfl, ⟨nd, rfl⟩⟩))
                      go_ret
                      exact ⟨by first | rfl | (simp [errW_none, errW_some] <;> rfl) | (simp [*, errW_none, errW_some] <;> rfl), by repeat (first | (with_reducible first | exact HB.out | apply below_alloc | apply pw_below_drewN | apply below_drew1) | exact HB.out)⟩
                · replace c20 := Bool.eq_false_iff.mpr c20
                  subst c20
                  have H1 : (some false) = some r := by rw [if_neg (show ¬ (false = true) by decide)] at H; exact H
                  clear H
                  have H := H1
                  clear H1
                  obtain rfl := Option.some.inj H
                  go_enter Try.func9, Try.ntmps9
                  go_wp2_with (first | ((with_reducible refine gate_callee (f := 14) rfl ?_); refine goesL_ (some 1) rfl rfl Try.func14 (by kernel_rfl) rfl #[.string (⟨#[97, 42, 99]⟩ : ByteArray), .string (⟨#[97, 98, 98, 99]⟩ : ByteArray)] rfl (by (try simp only [List.map_toArray, List.map_cons, List.map_nil]); first | done | rfl | (simp only [List.length_drop, List.length_take]; rfl)) ?_; (with_reducible refine (glob_Match.calls k (⟨#[97, 42, 99]⟩ : ByteArray) (⟨#[97, 98, 98, 99]⟩ : ByteArray) true _ A1.out).mono ?_); rintro e w' ⟨rfl, ⟨nd, rfl⟩⟩; refine ⟨_, rfl, ?_⟩) | (go_at_call 14; (with_reducible refine (glob_Match.calls k (⟨#[97, 42, 99]⟩ : ByteArray) (⟨#[97, 98]⟩ : ByteArray) false _ A3.out).mono ?_); rintro e w' ⟨rfl, ⟨nd, rfl⟩⟩) | (go_at_call 14; (with_reducible refine (glob_Match.calls k (⟨#[97, 63]⟩ : ByteArray) (⟨#[97, 98]⟩ : ByteArray) true _ A5.out).mono ?_); rintro e w' ⟨rfl, ⟨nd, rfl⟩⟩) | (go_at_call 21; (with_reducible refine (glob_Meets.calls k (⟨#[97, 63]⟩ : ByteArray) (⟨#[42, 98]⟩ : ByteArray) true _ A7.out).mono ?_); rintro e w47 ⟨rfl, hb⟩; have n0_ := Aside0.mk (below_step (by repeat (first | (with_reducible first | exact HB.out | apply below_alloc | apply pw_below_drewN | apply below_drew1) | exact HB.out)) hb); clear HB; have HB := n0_; clear n0_; (try clear hb); (try clear hb2); (try clear hk); (try clear hi)) | (go_at_call 21; (with_reducible refine (glob_Meets.calls k (⟨#[97, 63]⟩ : ByteArray) (⟨#[98, 63]⟩ : ByteArray) false _ A9.out).mono ?_); rintro e w48 ⟨rfl, hb⟩; have n0_ := Aside0.mk (below_step (by repeat (first | (with_reducible first | exact HB.out | apply below_alloc | apply pw_below_drewN | apply below_drew1) | exact HB.out)) hb); clear HB; have HB := n0_; clear n0_; (try clear hb); (try clear hb2); (try clear hk); (try clear hi)) | (go_at_call 10; (with_reducible refine (glob_Right.calls k (⟨#[97, 42]⟩ : ByteArray) true _ A13.out).mono ?_); rintro e w' ⟨rfl, ⟨nd, rfl⟩⟩) | (go_at_call 10; (with_reducible refine (glob_Right.calls k (⟨#[]⟩ : ByteArray) false _ A15.out).mono ?_); rintro e w' ⟨rfl, ⟨nd, rfl⟩⟩) | (go_at_call 12; (with_reducible refine (glob_Plain.calls (⟨#[97, 98]⟩ : ByteArray) false _ A19.out).mono ?_); rintro e w49 ⟨rfl, hb⟩; have n0_ := Aside0.mk (below_step (by repeat (first | (with_reducible first | exact HB.out | apply below_alloc | apply pw_below_drewN | apply below_drew1) | exact HB.out)) hb); clear HB; have HB := n0_; clear n0_; (try clear hb); (try clear hb2); (try clear hk); (try clear hi)))
                  go_ret
                  exact ⟨by first | rfl | (simp [errW_none, errW_some] <;> rfl) | (simp [*, errW_none, errW_some] <;> rfl), by repeat (first | (with_reducible first | exact HB.out | apply below_alloc | apply pw_below_drewN | apply below_drew1) | exact HB.out)⟩
            · replace c14 := Bool.eq_false_iff.mpr c14
              subst c14
              have H1 : (some false) = some r := by rw [if_neg (show ¬ (false = true) by decide)] at H; exact H
              clear H
              have H := H1
              clear H1
              obtain rfl := Option.some.inj H
              go_enter Try.func9, Try.ntmps9
              go_wp2_with (first | ((with_reducible refine gate_callee (f := 14) rfl ?_); refine goesL_ (some 1) rfl rfl Try.func14 (by kernel_rfl) rfl #[.string (⟨#[97, 42, 99]⟩ : ByteArray), .string (⟨#[97, 98, 98, 99]⟩ : ByteArray)] rfl (by (try simp only [List.map_toArray, List.map_cons, List.map_nil]); first | done | rfl | (simp only [List.length_drop, List.length_take]; rfl)) ?_; (with_reducible refine (glob_Match.calls k (⟨#[97, 42, 99]⟩ : ByteArray) (⟨#[97, 98, 98, 99]⟩ : ByteArray) true _ A1.out).mono ?_); rintro e w' ⟨rfl, ⟨nd, rfl⟩⟩; refine ⟨_, rfl, ?_⟩) | (go_at_call 14; (with_reducible refine (glob_Match.calls k (⟨#[97, 42, 99]⟩ : ByteArray) (⟨#[97, 98]⟩ : ByteArray) false _ A3.out).mono ?_); rintro e w' ⟨rfl, ⟨nd, rfl⟩⟩) | (go_at_call 14; (with_reducible refine (glob_Match.calls k (⟨#[97, 63]⟩ : ByteArray) (⟨#[97, 98]⟩ : ByteArray) true _ A5.out).mono ?_); rintro e w' ⟨rfl, ⟨nd, rfl⟩⟩) | (go_at_call 21; (with_reducible refine (glob_Meets.calls k (⟨#[97, 63]⟩ : ByteArray) (⟨#[42, 98]⟩ : ByteArray) true _ A7.out).mono ?_); rintro e w50 ⟨rfl, hb⟩; have n0_ := Aside0.mk (below_step (by repeat (first | (with_reducible first | exact HB.out | apply below_alloc | apply pw_below_drewN | apply below_drew1) | exact HB.out)) hb); clear HB; have HB := n0_; clear n0_; (try clear hb); (try clear hb2); (try clear hk); (try clear hi)) | (go_at_call 21; (with_reducible refine (glob_Meets.calls k (⟨#[97, 63]⟩ : ByteArray) (⟨#[98, 63]⟩ : ByteArray) false _ A9.out).mono ?_); rintro e w51 ⟨rfl, hb⟩; have n0_ := Aside0.mk (below_step (by repeat (first | (with_reducible first | exact HB.out | apply below_alloc | apply pw_below_drewN | apply below_drew1) | exact HB.out)) hb); clear HB; have HB := n0_; clear n0_; (try clear hb); (try clear hb2); (try clear hk); (try clear hi)) | (go_at_call 10; (with_reducible refine (glob_Right.calls k (⟨#[97, 42]⟩ : ByteArray) false _ A13.out).mono ?_); rintro e w' ⟨rfl, ⟨nd, rfl⟩⟩))
              go_ret
              exact ⟨by first | rfl | (simp [errW_none, errW_some] <;> rfl) | (simp [*, errW_none, errW_some] <;> rfl), by repeat (first | (with_reducible first | exact HB.out | apply below_alloc | apply pw_below_drewN | apply below_drew1) | exact HB.out)⟩
        · replace c8 := Bool.eq_false_iff.mpr c8
          subst c8
          have H1 : (some false) = some r := by rw [if_neg (show ¬ (false = true) by decide)] at H; exact H
          clear H
          have H := H1
          clear H1
          obtain rfl := Option.some.inj H
          go_enter Try.func9, Try.ntmps9
          go_wp2_with (first | ((with_reducible refine gate_callee (f := 14) rfl ?_); refine goesL_ (some 1) rfl rfl Try.func14 (by kernel_rfl) rfl #[.string (⟨#[97, 42, 99]⟩ : ByteArray), .string (⟨#[97, 98, 98, 99]⟩ : ByteArray)] rfl (by (try simp only [List.map_toArray, List.map_cons, List.map_nil]); first | done | rfl | (simp only [List.length_drop, List.length_take]; rfl)) ?_; (with_reducible refine (glob_Match.calls k (⟨#[97, 42, 99]⟩ : ByteArray) (⟨#[97, 98, 98, 99]⟩ : ByteArray) true _ A1.out).mono ?_); rintro e w' ⟨rfl, ⟨nd, rfl⟩⟩; refine ⟨_, rfl, ?_⟩) | (go_at_call 14; (with_reducible refine (glob_Match.calls k (⟨#[97, 42, 99]⟩ : ByteArray) (⟨#[97, 98]⟩ : ByteArray) false _ A3.out).mono ?_); rintro e w' ⟨rfl, ⟨nd, rfl⟩⟩) | (go_at_call 14; (with_reducible refine (glob_Match.calls k (⟨#[97, 63]⟩ : ByteArray) (⟨#[97, 98]⟩ : ByteArray) true _ A5.out).mono ?_); rintro e w' ⟨rfl, ⟨nd, rfl⟩⟩) | (go_at_call 21; (with_reducible refine (glob_Meets.calls k (⟨#[97, 63]⟩ : ByteArray) (⟨#[42, 98]⟩ : ByteArray) false _ A7.out).mono ?_); rintro e w52 ⟨rfl, hb⟩; have n0_ := Aside0.mk (below_step (by repeat (first | (with_reducible first | exact HB.out | apply below_alloc | apply pw_below_drewN | apply below_drew1) | exact HB.out)) hb); clear HB; have HB := n0_; clear n0_; (try clear hb); (try clear hb2); (try clear hk); (try clear hi)))
          go_ret
          exact ⟨by first | rfl | (simp [errW_none, errW_some] <;> rfl) | (simp [*, errW_none, errW_some] <;> rfl), by repeat (first | (with_reducible first | exact HB.out | apply below_alloc | apply pw_below_drewN | apply below_drew1) | exact HB.out)⟩
      · replace c6 := Bool.eq_false_iff.mpr c6
        subst c6
        have H1 : (some false) = some r := by rw [if_neg (show ¬ (false = true) by decide)] at H; exact H
        clear H
        have H := H1
        clear H1
        obtain rfl := Option.some.inj H
        go_enter Try.func9, Try.ntmps9
        go_wp2_with (first | ((with_reducible refine gate_callee (f := 14) rfl ?_); refine goesL_ (some 1) rfl rfl Try.func14 (by kernel_rfl) rfl #[.string (⟨#[97, 42, 99]⟩ : ByteArray), .string (⟨#[97, 98, 98, 99]⟩ : ByteArray)] rfl (by (try simp only [List.map_toArray, List.map_cons, List.map_nil]); first | done | rfl | (simp only [List.length_drop, List.length_take]; rfl)) ?_; (with_reducible refine (glob_Match.calls k (⟨#[97, 42, 99]⟩ : ByteArray) (⟨#[97, 98, 98, 99]⟩ : ByteArray) true _ A1.out).mono ?_); rintro e w' ⟨rfl, ⟨nd, rfl⟩⟩; refine ⟨_, rfl, ?_⟩) | (go_at_call 14; (with_reducible refine (glob_Match.calls k (⟨#[97, 42, 99]⟩ : ByteArray) (⟨#[97, 98]⟩ : ByteArray) false _ A3.out).mono ?_); rintro e w' ⟨rfl, ⟨nd, rfl⟩⟩) | (go_at_call 14; (with_reducible refine (glob_Match.calls k (⟨#[97, 63]⟩ : ByteArray) (⟨#[97, 98]⟩ : ByteArray) false _ A5.out).mono ?_); rintro e w' ⟨rfl, ⟨nd, rfl⟩⟩))
        go_ret
        exact ⟨by first | rfl | (simp [errW_none, errW_some] <;> rfl) | (simp [*, errW_none, errW_some] <;> rfl), by repeat (first | (with_reducible first | exact HB.out | apply below_alloc | apply pw_below_drewN | apply below_drew1) | exact HB.out)⟩
  · replace c2 := Bool.eq_false_iff.mpr c2
    subst c2
    have H1 : (some false) = some r := by rw [if_neg (show ¬ (false = true) by decide)] at H; exact H
    clear H
    have H := H1
    clear H1
    obtain rfl := Option.some.inj H
    go_enter Try.func9, Try.ntmps9
    go_wp2_with (first | ((with_reducible refine gate_callee (f := 14) rfl ?_); refine goesL_ (some 1) rfl rfl Try.func14 (by kernel_rfl) rfl #[.string (⟨#[97, 42, 99]⟩ : ByteArray), .string (⟨#[97, 98, 98, 99]⟩ : ByteArray)] rfl (by (try simp only [List.map_toArray, List.map_cons, List.map_nil]); first | done | rfl | (simp only [List.length_drop, List.length_take]; rfl)) ?_; (with_reducible refine (glob_Match.calls k (⟨#[97, 42, 99]⟩ : ByteArray) (⟨#[97, 98, 98, 99]⟩ : ByteArray) false _ A1.out).mono ?_); rintro e w' ⟨rfl, ⟨nd, rfl⟩⟩; refine ⟨_, rfl, ?_⟩))
    go_ret
    exact ⟨by first | rfl | (simp [errW_none, errW_some] <;> rfl) | (simp [*, errW_none, errW_some] <;> rfl), by repeat (first | (with_reducible first | exact HB.out | apply below_alloc | apply pw_below_drewN | apply below_drew1) | exact HB.out)⟩

/-! ### secateurref21_Right: function 11 -/
def secateurref21_Right.l0 : Nat → ByteArray → Int → Option (Bool)
  | 0, _, _ => none
  | k + 1, x0, x3 => if x3 < (x0.size : Int) then (if 0 ≤ x3 then (if (bt x0 x3) < 33 then (some false) else (if (bt x0 x3) > 126 then (some false) else (secateurref21_Right.l0 k x0 (wrap64 (x3 + 1))))) else (none)) else (if (x0.size : Int) ≥ 1 then (some (decide ((x0.size : Int) ≤ 64))) else (some false))
def secateurref21_Right.f (k : Nat) (a0 : ByteArray) : Option (Bool) := secateurref21_Right.l0 k a0 0
theorem secateurref21_Right.mono_l : ∀ k, (∀ y0 y1, LeO (secateurref21_Right.l0 k y0 y1) (secateurref21_Right.l0 (k + 1) y0 y1))
  | 0 => fun _ _ r h => by simp [secateurref21_Right.l0] at h
  | k + 1 => by
    have ih0 := secateurref21_Right.mono_l k
    · intro y0 y1
      unfold secateurref21_Right.l0
      repeat' first
      | (with_reducible exact ih0 _ _)
      | (with_reducible exact LeO.refl _)
      | (with_reducible exact LeO.none _)
      | (with_reducible refine LeO.ite ?_ ?_)
      | (with_reducible refine LeO.bind ?_ (fun _ => ?_))
      | exact ih0 _ _
      | exact LeO.none _
      | refine LeO.ite ?_ ?_
      | refine LeO.bind ?_ (fun _ => ?_)
theorem secateurref21_Right.mono : ∀ a0 k, LeO (secateurref21_Right.f k a0) (secateurref21_Right.f (k + 1) a0) := by
  intro a0 k
  have ih0 := secateurref21_Right.mono_l k
  unfold secateurref21_Right.f
  repeat' first
      | (with_reducible exact ih0 _ _)
      | (with_reducible exact LeO.refl _)
      | (with_reducible exact LeO.none _)
      | (with_reducible refine LeO.ite ?_ ?_)
      | (with_reducible refine LeO.bind ?_ (fun _ => ?_))
      | exact ih0 _ _
      | exact LeO.none _
      | refine LeO.ite ?_ ?_
      | refine LeO.bind ?_ (fun _ => ?_)
set_option maxHeartbeats 8000000 in
set_option maxRecDepth 100000 in
theorem secateurref21_Right.calls (k : Nat) (a0 : ByteArray) (r : Bool) (w : World) (h : secateurref21_Right.f k a0 = some r) :
    Calls Try.prog 11 #[.string a0] w fun e w' => e = .returned (.bool r) ∧ Drawn0 w w' := by
  have H : (secateurref21_Right.l0 k a0 0) = some r := h
  clear h
  have H' := Aside0.mk H
  clear H
  go_enter Try.func11, Try.ntmps11
  go_wp2
  go_loopg [3] k (fun kq v3 w' => ∃ (x3_1 : Int), v3 = .int .i64 x3_1 ∧ Aside0 (secateurref21_Right.l0 kq a0 x3_1 = some r) ∧ Aside0 (kq ≤ k) ∧ Drawn0 w w')
  case atStart => exact ⟨(0), (by first | rfl | (simp; done) | (simp [*]; done)), H', ⟨Nat.le_refl _⟩, by repeat (first | exact Drawn0.refl _ | apply Drawn0.step)⟩
  case round =>
    clear H'
    try clear c1
    obtain ⟨x3_1, rfl, HA, HK1, ⟨m1, rfl⟩⟩ := hrel
    cases gk with
    | zero => exact absurd HA.out (by simp [secateurref21_Right.l0])
    | succ k1 =>
      have H := HA.out
      clear HA
      simp only [secateurref21_Right.l0] at H
      by_cases c2 : x3_1 < (a0.size : Int)
      · rw [if_pos c2] at H
        have c2b0 : decide (x3_1 < (a0.size : Int)) = true := decide_eq_true c2
        clear c2
        by_cases c3 : 0 ≤ x3_1
        · rw [if_pos c3] at H
          have c3b0 : decide (0 ≤ x3_1) = true := decide_eq_true c3
          clear c3
          by_cases c5 : (bt a0 x3_1) < 33
          · rw [if_pos c5] at H
            have c5b0 : decide ((bt a0 x3_1) < 33) = true := decide_eq_true c5
            clear c5
            obtain rfl := Option.some.inj H
            have p4 : 0 ≤ (x3_1 : Int) := of_decide_eq_true (by first | (with_reducible assumption) | assumption)
            have q4 : x3_1 < (a0.size : Int) := of_decide_eq_true (by first | (with_reducible assumption) | assumption)
            have hx4 := bt_at a0 x3_1
            replace p4 := eq_true p4
            replace q4 := eq_true q4
            go_wp2
            go_ret
            exact ⟨by first | rfl | (simp; done) | (simp [*]; done), by repeat (first | exact Drawn0.refl _ | apply Drawn0.step)⟩
          · rw [if_neg c5] at H
            have c5b0 : decide ((bt a0 x3_1) < 33) = false := decide_eq_false c5
            clear c5
            by_cases c7 : (bt a0 x3_1) > 126
            · rw [if_pos c7] at H
              have c7b0 : decide (126 < (bt a0 x3_1)) = true := decide_eq_true c7
              clear c7
              obtain rfl := Option.some.inj H
              have p4 : 0 ≤ (x3_1 : Int) := of_decide_eq_true (by first | (with_reducible assumption) | assumption)
              have q4 : x3_1 < (a0.size : Int) := of_decide_eq_true (by first | (with_reducible assumption) | assumption)
              have hx4 := bt_at a0 x3_1
              replace p4 := eq_true p4
              replace q4 := eq_true q4
              have p6 : 0 ≤ (x3_1 : Int) := of_decide_eq_true (by first | (with_reducible assumption) | assumption)
              have q6 : x3_1 < (a0.size : Int) := of_decide_eq_true (by first | (with_reducible assumption) | assumption)
              have hx6 := bt_at a0 x3_1
              replace p6 := eq_true p6
              replace q6 := eq_true q6
              go_wp2
              go_ret
              exact ⟨by first | rfl | (simp; done) | (simp [*]; done), by repeat (first | exact Drawn0.refl _ | apply Drawn0.step)⟩
            · rw [if_neg c7] at H
              have c7b0 : decide (126 < (bt a0 x3_1)) = false := decide_eq_false c7
              clear c7
              have H' := Aside0.mk H
              clear H
              have p4 : 0 ≤ (x3_1 : Int) := of_decide_eq_true (by first | (with_reducible assumption) | assumption)
              have q4 : x3_1 < (a0.size : Int) := of_decide_eq_true (by first | (with_reducible assumption) | assumption)
              have hx4 := bt_at a0 x3_1
              replace p4 := eq_true p4
              replace q4 := eq_true q4
              have p6 : 0 ≤ (x3_1 : Int) := of_decide_eq_true (by first | (with_reducible assumption) | assumption)
              have q6 : x3_1 < (a0.size : Int) := of_decide_eq_true (by first | (with_reducible assumption) | assumption)
              have hx6 := bt_at a0 x3_1
              replace p6 := eq_true p6
              replace q6 := eq_true q6
              go_wp2
              go_roundg k1
              case measure => have := HK1.out; omega
              case rel => exact ⟨(wrap64 (x3_1 + 1)), (by first | rfl | (simp; done) | (simp [*]; done)), H', ⟨by have := HK1.out; omega⟩, by repeat (first | exact Drawn0.refl _ | apply Drawn0.step)⟩
        · rw [if_neg c3] at H
          exact absurd H (by simp)
      · rw [if_neg c2] at H
        have c2b0 : decide (x3_1 < (a0.size : Int)) = false := decide_eq_false c2
        clear c2
        by_cases c8 : (a0.size : Int) ≥ 1
        · rw [if_pos c8] at H
          have c8b0 : decide (1 ≤ (a0.size : Int)) = true := decide_eq_true c8
          have c8b1 : decide (1 ≤ a0.size) = true := decide_eq_true (by omega)
          clear c8
          obtain rfl := Option.some.inj H
          go_wp2
          go_ret
          exact ⟨by first | rfl | (simp; done) | (simp [*]; done), by repeat (first | exact Drawn0.refl _ | apply Drawn0.step)⟩
        · rw [if_neg c8] at H
          have c8b0 : decide (1 ≤ (a0.size : Int)) = false := decide_eq_false c8
          have c8b1 : decide (1 ≤ a0.size) = false := decide_eq_false (by omega)
          clear c8
          obtain rfl := Option.some.inj H
          go_wp2
          go_ret
          exact ⟨by first | rfl | (simp; done) | (simp [*]; done), by repeat (first | exact Drawn0.refl _ | apply Drawn0.step)⟩

/-! ### secateurref21_Plain: function 13 -/
def secateurref21_Plain.l0 : Nat → ByteArray → Int → Option (Bool)
  | 0, _, _ => none
  | k + 1, x0, x3 => if x3 < (x0.size : Int) then (if 0 ≤ x3 then (if (bt x0 x3) = 42 then (some false) else (if (bt x0 x3) = 63 then (some false) else (secateurref21_Plain.l0 k x0 (wrap64 (x3 + 1))))) else (none)) else (some true)
def secateurref21_Plain.f (k : Nat) (a0 : ByteArray) : Option (Bool) := secateurref21_Plain.l0 k a0 0
theorem secateurref21_Plain.mono_l : ∀ k, (∀ y0 y1, LeO (secateurref21_Plain.l0 k y0 y1) (secateurref21_Plain.l0 (k + 1) y0 y1))
  | 0 => fun _ _ r h => by simp [secateurref21_Plain.l0] at h
  | k + 1 => by
    have ih0 := secateurref21_Plain.mono_l k
    · intro y0 y1
      unfold secateurref21_Plain.l0
      repeat' first
      | (with_reducible exact ih0 _ _)
      | (with_reducible exact LeO.refl _)
      | (with_reducible exact LeO.none _)
      | (with_reducible refine LeO.ite ?_ ?_)
      | (with_reducible refine LeO.bind ?_ (fun _ => ?_))
      | exact ih0 _ _
      | exact LeO.none _
      | refine LeO.ite ?_ ?_
      | refine LeO.bind ?_ (fun _ => ?_)
theorem secateurref21_Plain.mono : ∀ a0 k, LeO (secateurref21_Plain.f k a0) (secateurref21_Plain.f (k + 1) a0) := by
  intro a0 k
  have ih0 := secateurref21_Plain.mono_l k
  unfold secateurref21_Plain.f
  repeat' first
      | (with_reducible exact ih0 _ _)
      | (with_reducible exact LeO.refl _)
      | (with_reducible exact LeO.none _)
      | (with_reducible refine LeO.ite ?_ ?_)
      | (with_reducible refine LeO.bind ?_ (fun _ => ?_))
      | exact ih0 _ _
      | exact LeO.none _
      | refine LeO.ite ?_ ?_
      | refine LeO.bind ?_ (fun _ => ?_)
set_option maxHeartbeats 8000000 in
set_option maxRecDepth 100000 in
theorem secateurref21_Plain.calls (k : Nat) (a0 : ByteArray) (r : Bool) (w : World) (h : secateurref21_Plain.f k a0 = some r) :
    Calls Try.prog 13 #[.string a0] w fun e w' => e = .returned (.bool r) ∧ Drawn0 w w' := by
  have H : (secateurref21_Plain.l0 k a0 0) = some r := h
  clear h
  have H' := Aside0.mk H
  clear H
  go_enter Try.func13, Try.ntmps13
  go_wp2
  go_loopg [3] k (fun kq v3 w' => ∃ (x3_1 : Int), v3 = .int .i64 x3_1 ∧ Aside0 (secateurref21_Plain.l0 kq a0 x3_1 = some r) ∧ Aside0 (kq ≤ k) ∧ Drawn0 w w')
  case atStart => exact ⟨(0), (by first | rfl | (simp; done) | (simp [*]; done)), H', ⟨Nat.le_refl _⟩, by repeat (first | exact Drawn0.refl _ | apply Drawn0.step)⟩
  case round =>
    clear H'
    try clear c1
    obtain ⟨x3_1, rfl, HA, HK1, ⟨m1, rfl⟩⟩ := hrel
    cases gk with
    | zero => exact absurd HA.out (by simp [secateurref21_Plain.l0])
    | succ k1 =>
      have H := HA.out
      clear HA
      simp only [secateurref21_Plain.l0] at H
      by_cases c2 : x3_1 < (a0.size : Int)
      · rw [if_pos c2] at H
        have c2b0 : decide (x3_1 < (a0.size : Int)) = true := decide_eq_true c2
        clear c2
        by_cases c3 : 0 ≤ x3_1
        · rw [if_pos c3] at H
          have c3b0 : decide (0 ≤ x3_1) = true := decide_eq_true c3
          clear c3
          by_cases c5 : (bt a0 x3_1) = 42
          · rw [if_pos c5] at H
            have c5b0 : ((bt a0 x3_1) == 42) = true := beq_iff_eq.mpr c5
            have c5b1 : ((bt a0 x3_1) != 42) = false := bne_eq_false_iff_eq.mpr c5
            clear c5
            obtain rfl := Option.some.inj H
            have p4 : 0 ≤ (x3_1 : Int) := of_decide_eq_true (by first | (with_reducible assumption) | assumption)
            have q4 : x3_1 < (a0.size : Int) := of_decide_eq_true (by first | (with_reducible assumption) | assumption)
            have hx4 := bt_at a0 x3_1
            replace p4 := eq_true p4
            replace q4 := eq_true q4
            go_wp2
            go_ret
            exact ⟨by first | rfl | (simp; done) | (simp [*]; done), by repeat (first | exact Drawn0.refl _ | apply Drawn0.step)⟩
          · rw [if_neg c5] at H
            have c5b0 : ((bt a0 x3_1) == 42) = false := beq_eq_false_iff_ne.mpr c5
            have c5b1 : ((bt a0 x3_1) != 42) = true := bne_iff_ne.mpr c5
            by_cases c7 : (bt a0 x3_1) = 63
            · rw [if_pos c7] at H
              have c7b0 : ((bt a0 x3_1) == 63) = true := beq_iff_eq.mpr c7
              have c7b1 : ((bt a0 x3_1) != 63) = false := bne_eq_false_iff_eq.mpr c7
              clear c7
              obtain rfl := Option.some.inj H
              have p4 : 0 ≤ (x3_1 : Int) := of_decide_eq_true (by first | (with_reducible assumption) | assumption)
              have q4 : x3_1 < (a0.size : Int) := of_decide_eq_true (by first | (with_reducible assumption) | assumption)
              have hx4 := bt_at a0 x3_1
              replace p4 := eq_true p4
              replace q4 := eq_true q4
              have p6 : 0 ≤ (x3_1 : Int) := of_decide_eq_true (by first | (with_reducible assumption) | assumption)
              have q6 : x3_1 < (a0.size : Int) := of_decide_eq_true (by first | (with_reducible assumption) | assumption)
              have hx6 := bt_at a0 x3_1
              replace p6 := eq_true p6
              replace q6 := eq_true q6
              go_wp2
              go_ret
              exact ⟨by first | rfl | (simp; done) | (simp [*]; done), by repeat (first | exact Drawn0.refl _ | apply Drawn0.step)⟩
            · rw [if_neg c7] at H
              have c7b0 : ((bt a0 x3_1) == 63) = false := beq_eq_false_iff_ne.mpr c7
              have c7b1 : ((bt a0 x3_1) != 63) = true := bne_iff_ne.mpr c7
              have H' := Aside0.mk H
              clear H
              have p4 : 0 ≤ (x3_1 : Int) := of_decide_eq_true (by first | (with_reducible assumption) | assumption)
              have q4 : x3_1 < (a0.size : Int) := of_decide_eq_true (by first | (with_reducible assumption) | assumption)
              have hx4 := bt_at a0 x3_1
              replace p4 := eq_true p4
              replace q4 := eq_true q4
              have p6 : 0 ≤ (x3_1 : Int) := of_decide_eq_true (by first | (with_reducible assumption) | assumption)
              have q6 : x3_1 < (a0.size : Int) := of_decide_eq_true (by first | (with_reducible assumption) | assumption)
              have hx6 := bt_at a0 x3_1
              replace p6 := eq_true p6
              replace q6 := eq_true q6
              go_wp2
              go_roundg k1
              case measure => have := HK1.out; omega
              case rel => exact ⟨(wrap64 (x3_1 + 1)), (by first | rfl | (simp; done) | (simp [*]; done)), H', ⟨by have := HK1.out; omega⟩, by repeat (first | exact Drawn0.refl _ | apply Drawn0.step)⟩
        · rw [if_neg c3] at H
          exact absurd H (by simp)
      · rw [if_neg c2] at H
        have c2b0 : decide (x3_1 < (a0.size : Int)) = false := decide_eq_false c2
        clear c2
        obtain rfl := Option.some.inj H
        go_wp2
        go_ret
        exact ⟨by first | rfl | (simp; done) | (simp [*]; done), by repeat (first | exact Drawn0.refl _ | apply Drawn0.step)⟩

end Go.Proofs.Ytbdaledkkbkhgaa.PGlob
