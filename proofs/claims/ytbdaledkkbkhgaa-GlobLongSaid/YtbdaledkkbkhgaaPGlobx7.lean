/- Part of a proof of this seat's statements: plain functions, contracts and rows, written by a program (the kit's printer, some functions given by hand) out of the translation; no conditions of its own. -/
import Derived.Test.YtbdaledkkbkhgaaPGlobx0
import Derived.Test.YtbdaledkkbkhgaaPGlobx1
import Derived.Test.YtbdaledkkbkhgaaPGlobx4
namespace Go.Proofs.Ytbdaledkkbkhgaa.PGlob
open Go.RowKit Go.Proofs.YtbdaledkkbkhgaaW.PrintWords Go.Proofs.YtbdaledkkbkhgaaW.PrintLast Go.Proofs.YtbdaledkkbkhgaaW.PrintMore
attribute [local go_sem] max2_int min2_int max_two min_two max_three min_three max_four min_four   -- for this text's walks alone
set_option linter.unusedVariables false
set_option linter.unusedSimpArgs false

/-! ### secateurlaw21_GlobLong: function 6 -/
def secateurlaw21_GlobLong.f (k : Nat) (a0 : ByteArray) (a1 : ByteArray) (a2 : ByteArray) : Option (Bool) := (secateurlaw21_cut.f a0).bind fun t206 => ((secateurlaw21_cut.f a1).bind fun t207 => ((secateurlaw21_cut.f a2).bind fun t208 => ((glob_Match.f k t206 t207).bind fun t209 => (if t209 = true then ((secateurlaw21_live.f k).bind fun t211 => (if t211 = true then ((glob_Least.f t206).bind fun t212 => (if (t207.size : Int) ≥ t212 then (if t206.size + 1 ≤ 9223372036854775807 then (if t207.size + t208.size ≤ 9223372036854775807 then ((glob_Match.f k (t206 ++ (⟨#[42]⟩ : ByteArray)) (t207 ++ t208)).bind fun t213 => (if t213 = true then (if 1 + t206.size ≤ 9223372036854775807 then (if t208.size + t207.size ≤ 9223372036854775807 then ((glob_Match.f k ((⟨#[42]⟩ : ByteArray) ++ t206) (t208 ++ t207)).bind fun t214 => (some t214)) else (none)) else (none)) else (some false))) else (none)) else (none)) else (some false))) else (some false))) else ((secateurlaw21_live.f k).bind fun t210 => (some t210))))))
theorem secateurlaw21_GlobLong.mono : ∀ a0 a1 a2 k, LeO (secateurlaw21_GlobLong.f k a0 a1 a2) (secateurlaw21_GlobLong.f (k + 1) a0 a1 a2) := by
  intro a0 a1 a2 k
  unfold secateurlaw21_GlobLong.f
  repeat' first
      | (with_reducible exact glob_Match.mono _ _ _)
      | (with_reducible exact secateurlaw21_live.mono _)
      | (with_reducible exact LeO.refl _)
      | (with_reducible exact LeO.none _)
      | (with_reducible refine LeO.ite ?_ ?_)
      | (with_reducible refine LeO.bind ?_ (fun _ => ?_))
      | exact glob_Match.mono _ _ _
      | exact secateurlaw21_live.mono _
      | exact LeO.none _
      | refine LeO.ite ?_ ?_
      | refine LeO.bind ?_ (fun _ => ?_)
set_option maxHeartbeats 8000000 in
set_option maxRecDepth 100000 in
theorem secateurlaw21_GlobLong.calls (k : Nat) (a0 : ByteArray) (a1 : ByteArray) (a2 : ByteArray) (r : Bool) (w : World) (h : secateurlaw21_GlobLong.f k a0 a1 a2 = some r) :
    Calls Try.prog 6 #[.string a0, .string a1, .string a2] w fun e w' => e = .returned (.bool r) ∧ Below w.heap.size w w' := by
  have HB := Aside0.mk (Below.refl w.heap.size w)
  have H : ((secateurlaw21_cut.f a0).bind fun t206 => ((secateurlaw21_cut.f a1).bind fun t207 => ((secateurlaw21_cut.f a2).bind fun t208 => ((glob_Match.f k t206 t207).bind fun t209 => (if t209 = true then ((secateurlaw21_live.f k).bind fun t211 => (if t211 = true then ((glob_Least.f t206).bind fun t212 => (if (t207.size : Int) ≥ t212 then (if t206.size + 1 ≤ 9223372036854775807 then (if t207.size + t208.size ≤ 9223372036854775807 then ((glob_Match.f k (t206 ++ (⟨#[42]⟩ : ByteArray)) (t207 ++ t208)).bind fun t213 => (if t213 = true then (if 1 + t206.size ≤ 9223372036854775807 then (if t208.size + t207.size ≤ 9223372036854775807 then ((glob_Match.f k ((⟨#[42]⟩ : ByteArray) ++ t206) (t208 ++ t207)).bind fun t214 => (some t214)) else (none)) else (none)) else (some false))) else (none)) else (none)) else (some false))) else (some false))) else ((secateurlaw21_live.f k).bind fun t210 => (some t210))))))) = some r := h
  clear h
  replace H := Option.bind_eq_some_iff.mp H
  obtain ⟨t206, A40, H⟩ := H
  replace H : ((secateurlaw21_cut.f a1).bind fun t207 => ((secateurlaw21_cut.f a2).bind fun t208 => ((glob_Match.f k t206 t207).bind fun t209 => (if t209 = true then ((secateurlaw21_live.f k).bind fun t211 => (if t211 = true then ((glob_Least.f t206).bind fun t212 => (if (t207.size : Int) ≥ t212 then (if t206.size + 1 ≤ 9223372036854775807 then (if t207.size + t208.size ≤ 9223372036854775807 then ((glob_Match.f k (t206 ++ (⟨#[42]⟩ : ByteArray)) (t207 ++ t208)).bind fun t213 => (if t213 = true then (if 1 + t206.size ≤ 9223372036854775807 then (if t208.size + t207.size ≤ 9223372036854775807 then ((glob_Match.f k ((⟨#[42]⟩ : ByteArray) ++ t206) (t208 ++ t207)).bind fun t214 => (some t214)) else (none)) else (none)) else (some false))) else (none)) else (none)) else (some false))) else (some false))) else ((secateurlaw21_live.f k).bind fun t210 => (some t210)))))) = some r := H
  have A4 := Aside0.mk A40
  clear A40
  replace H := Option.bind_eq_some_iff.mp H
  obtain ⟨t207, A50, H⟩ := H
  replace H : ((secateurlaw21_cut.f a2).bind fun t208 => ((glob_Match.f k t206 t207).bind fun t209 => (if t209 = true then ((secateurlaw21_live.f k).bind fun t211 => (if t211 = true then ((glob_Least.f t206).bind fun t212 => (if (t207.size : Int) ≥ t212 then (if t206.size + 1 ≤ 9223372036854775807 then (if t207.size + t208.size ≤ 9223372036854775807 then ((glob_Match.f k (t206 ++ (⟨#[42]⟩ : ByteArray)) (t207 ++ t208)).bind fun t213 => (if t213 = true then (if 1 + t206.size ≤ 9223372036854775807 then (if t208.size + t207.size ≤ 9223372036854775807 then ((glob_Match.f k ((⟨#[42]⟩ : ByteArray) ++ t206) (t208 ++ t207)).bind fun t214 => (some t214)) else (none)) else (none)) else (some false))) else (none)) else (none)) else (some false))) else (some false))) else ((secateurlaw21_live.f k).bind fun t210 => (some t210))))) = some r := H
  have A5 := Aside0.mk A50
  clear A50
  replace H := Option.bind_eq_some_iff.mp H
  obtain ⟨t208, A60, H⟩ := H
  replace H : ((glob_Match.f k t206 t207).bind fun t209 => (if t209 = true then ((secateurlaw21_live.f k).bind fun t211 => (if t211 = true then ((glob_Least.f t206).bind fun t212 => (if (t207.size : Int) ≥ t212 then (if t206.size + 1 ≤ 9223372036854775807 then (if t207.size + t208.size ≤ 9223372036854775807 then ((glob_Match.f k (t206 ++ (⟨#[42]⟩ : ByteArray)) (t207 ++ t208)).bind fun t213 => (if t213 = true then (if 1 + t206.size ≤ 9223372036854775807 then (if t208.size + t207.size ≤ 9223372036854775807 then ((glob_Match.f k ((⟨#[42]⟩ : ByteArray) ++ t206) (t208 ++ t207)).bind fun t214 => (some t214)) else (none)) else (none)) else (some false))) else (none)) else (none)) else (some false))) else (some false))) else ((secateurlaw21_live.f k).bind fun t210 => (some t210)))) = some r := H
  have A6 := Aside0.mk A60
  clear A60
  replace H := Option.bind_eq_some_iff.mp H
  obtain ⟨t209, A70, H⟩ := H
  replace H : (if t209 = true then ((secateurlaw21_live.f k).bind fun t211 => (if t211 = true then ((glob_Least.f t206).bind fun t212 => (if (t207.size : Int) ≥ t212 then (if t206.size + 1 ≤ 9223372036854775807 then (if t207.size + t208.size ≤ 9223372036854775807 then ((glob_Match.f k (t206 ++ (⟨#[42]⟩ : ByteArray)) (t207 ++ t208)).bind fun t213 => (if t213 = true then (if 1 + t206.size ≤ 9223372036854775807 then (if t208.size + t207.size ≤ 9223372036854775807 then ((glob_Match.f k ((⟨#[42]⟩ : ByteArray) ++ t206) (t208 ++ t207)).bind fun t214 => (some t214)) else (none)) else (none)) else (some false))) else (none)) else (none)) else (some false))) else (some false))) else ((secateurlaw21_live.f k).bind fun t210 => (some t210))) = some r := H
  have A7 := Aside0.mk A70
  clear A70
  by_cases c8 : t209 = true
  · subst c8
    have H1 : ((secateurlaw21_live.f k).bind fun t211 => (if t211 = true then ((glob_Least.f t206).bind fun t212 => (if (t207.size : Int) ≥ t212 then (if t206.size + 1 ≤ 9223372036854775807 then (if t207.size + t208.size ≤ 9223372036854775807 then ((glob_Match.f k (t206 ++ (⟨#[42]⟩ : ByteArray)) (t207 ++ t208)).bind fun t213 => (if t213 = true then (if 1 + t206.size ≤ 9223372036854775807 then (if t208.size + t207.size ≤ 9223372036854775807 then ((glob_Match.f k ((⟨#[42]⟩ : ByteArray) ++ t206) (t208 ++ t207)).bind fun t214 => (some t214)) else (none)) else (none)) else (some false))) else (none)) else (none)) else (some false))) else (some false))) = some r := by rw [if_pos rfl] at H; exact H
    clear H
    have H := H1
    clear H1
    replace H := Option.bind_eq_some_iff.mp H
    obtain ⟨t211, A90, H⟩ := H
    replace H : (if t211 = true then ((glob_Least.f t206).bind fun t212 => (if (t207.size : Int) ≥ t212 then (if t206.size + 1 ≤ 9223372036854775807 then (if t207.size + t208.size ≤ 9223372036854775807 then ((glob_Match.f k (t206 ++ (⟨#[42]⟩ : ByteArray)) (t207 ++ t208)).bind fun t213 => (if t213 = true then (if 1 + t206.size ≤ 9223372036854775807 then (if t208.size + t207.size ≤ 9223372036854775807 then ((glob_Match.f k ((⟨#[42]⟩ : ByteArray) ++ t206) (t208 ++ t207)).bind fun t214 => (some t214)) else (none)) else (none)) else (some false))) else (none)) else (none)) else (some false))) else (some false)) = some r := H
    have A9 := Aside0.mk A90
    clear A90
    by_cases c10 : t211 = true
    · subst c10
      have H1 : ((glob_Least.f t206).bind fun t212 => (if (t207.size : Int) ≥ t212 then (if t206.size + 1 ≤ 9223372036854775807 then (if t207.size + t208.size ≤ 9223372036854775807 then ((glob_Match.f k (t206 ++ (⟨#[42]⟩ : ByteArray)) (t207 ++ t208)).bind fun t213 => (if t213 = true then (if 1 + t206.size ≤ 9223372036854775807 then (if t208.size + t207.size ≤ 9223372036854775807 then ((glob_Match.f k ((⟨#[42]⟩ : ByteArray) ++ t206) (t208 ++ t207)).bind fun t214 => (some t214)) else (none)) else (none)) else (some false))) else (none)) else (none)) else (some false))) = some r := by rw [if_pos rfl] at H; exact H
      clear H
      have H := H1
      clear H1
      replace H := Option.bind_eq_some_iff.mp H
      obtain ⟨t212, A110, H⟩ := H
      replace H : (if (t207.size : Int) ≥ t212 then (if t206.size + 1 ≤ 9223372036854775807 then (if t207.size + t208.size ≤ 9223372036854775807 then ((glob_Match.f k (t206 ++ (⟨#[42]⟩ : ByteArray)) (t207 ++ t208)).bind fun t213 => (if t213 = true then (if 1 + t206.size ≤ 9223372036854775807 then (if t208.size + t207.size ≤ 9223372036854775807 then ((glob_Match.f k ((⟨#[42]⟩ : ByteArray) ++ t206) (t208 ++ t207)).bind fun t214 => (some t214)) else (none)) else (none)) else (some false))) else (none)) else (none)) else (some false)) = some r := H
      have A11 := Aside0.mk A110
      clear A110
      by_cases c12 : (t207.size : Int) ≥ t212
      · rw [if_pos c12] at H
        have c12b0 : decide (t212 ≤ (t207.size : Int)) = true := decide_eq_true c12
        clear c12
        by_cases c13 : t206.size + 1 ≤ 9223372036854775807
        · rw [if_pos c13] at H
          have c13b0 := eq_true c13
          have c13b1 : decide (t206.size + 1 ≤ 9223372036854775807) = true := decide_eq_true c13
          try have c13b2 : (9223372036854775807 < t206.size + 1) = False := eq_false (Nat.not_lt.2 c13)
          by_cases c14 : t207.size + t208.size ≤ 9223372036854775807
          · rw [if_pos c14] at H
            have c14b0 := eq_true c14
            have c14b1 : decide (t207.size + t208.size ≤ 9223372036854775807) = true := decide_eq_true c14
            try have c14b2 : (9223372036854775807 < t207.size + t208.size) = False := eq_false (Nat.not_lt.2 c14)
            replace H := Option.bind_eq_some_iff.mp H
            obtain ⟨t213, A150, H⟩ := H
            replace H : (if t213 = true then (if 1 + t206.size ≤ 9223372036854775807 then (if t208.size + t207.size ≤ 9223372036854775807 then ((glob_Match.f k ((⟨#[42]⟩ : ByteArray) ++ t206) (t208 ++ t207)).bind fun t214 => (some t214)) else (none)) else (none)) else (some false)) = some r := H
            have A15 := Aside0.mk A150
            clear A150
            by_cases c16 : t213 = true
            · subst c16
              have H1 : (if 1 + t206.size ≤ 9223372036854775807 then (if t208.size + t207.size ≤ 9223372036854775807 then ((glob_Match.f k ((⟨#[42]⟩ : ByteArray) ++ t206) (t208 ++ t207)).bind fun t214 => (some t214)) else (none)) else (none)) = some r := by rw [if_pos rfl] at H; exact H
              clear H
              have H := H1
              clear H1
              by_cases c17 : 1 + t206.size ≤ 9223372036854775807
              · rw [if_pos c17] at H
                have c17b0 := eq_true c17
                have c17b1 : decide (1 + t206.size ≤ 9223372036854775807) = true := decide_eq_true c17
                try have c17b2 : (9223372036854775807 < 1 + t206.size) = False := eq_false (Nat.not_lt.2 c17)
                by_cases c18 : t208.size + t207.size ≤ 9223372036854775807
                · rw [if_pos c18] at H
                  have c18b0 := eq_true c18
                  have c18b1 : decide (t208.size + t207.size ≤ 9223372036854775807) = true := decide_eq_true c18
                  try have c18b2 : (9223372036854775807 < t208.size + t207.size) = False := eq_false (Nat.not_lt.2 c18)
                  replace H := Option.bind_eq_some_iff.mp H
                  obtain ⟨t214, A190, H⟩ := H
                  replace H : (some t214) = some r := H
                  have A19 := Aside0.mk A190
                  clear A190
                  obtain rfl := Option.some.inj H
                  go_enter Try.func6, Try.ntmps6
                  go_wp2_with (first | ((with_reducible refine gate_callee (f := 8) rfl ?_); refine goesL_ (some 8) rfl rfl Try.func8 (by kernel_rfl) rfl #[.string a0] rfl (by (try simp only [List.map_toArray, List.map_cons, List.map_nil]); first | done | rfl | (simp only [List.length_drop, List.length_take]; rfl)) ?_; (with_reducible refine (secateurlaw21_cut.calls a0 t206 _ A4.out).mono ?_); rintro e w' ⟨rfl, ⟨nd, rfl⟩⟩; refine ⟨_, rfl, ?_⟩) | ((with_reducible refine gate_callee (f := 8) rfl ?_); refine goesL_ (some 10) rfl rfl Try.func8 (by kernel_rfl) rfl #[.string a1] rfl (by (try simp only [List.map_toArray, List.map_cons, List.map_nil]); first | done | rfl | (simp only [List.length_drop, List.length_take]; rfl)) ?_; (with_reducible refine (secateurlaw21_cut.calls a1 t207 _ A5.out).mono ?_); rintro e w' ⟨rfl, ⟨nd, rfl⟩⟩; refine ⟨_, rfl, ?_⟩) | ((with_reducible refine gate_callee (f := 8) rfl ?_); refine goesL_ (some 12) rfl rfl Try.func8 (by kernel_rfl) rfl #[.string a2] rfl (by (try simp only [List.map_toArray, List.map_cons, List.map_nil]); first | done | rfl | (simp only [List.length_drop, List.length_take]; rfl)) ?_; (with_reducible refine (secateurlaw21_cut.calls a2 t208 _ A6.out).mono ?_); rintro e w' ⟨rfl, ⟨nd, rfl⟩⟩; refine ⟨_, rfl, ?_⟩) | ((with_reducible refine gate_callee (f := 14) rfl ?_); refine goesL_ (some 15) rfl rfl Try.func14 (by kernel_rfl) rfl #[.string t206, .string t207] rfl (by (try simp only [List.map_toArray, List.map_cons, List.map_nil]); first | done | rfl | (simp only [List.length_drop, List.length_take]; rfl)) ?_; (with_reducible refine (glob_Match.calls k t206 t207 true _ A7.out).mono ?_); rintro e w' ⟨rfl, ⟨nd, rfl⟩⟩; refine ⟨_, rfl, ?_⟩) | ((with_reducible refine gate_callee (f := 9) rfl ?_); refine goesL_ (some 18) rfl rfl Try.func9 (by kernel_rfl) rfl #[] rfl (by (try simp only [List.map_toArray, List.map_cons, List.map_nil]); first | done | rfl | (simp only [List.length_drop, List.length_take]; rfl)) ?_; (with_reducible refine (secateurlaw21_live.calls k  true _ A9.out).mono ?_); rintro e w20 ⟨rfl, hb⟩; refine ⟨_, rfl, ?_⟩; have n0_ := Aside0.mk (below_step (by repeat (first | (with_reducible first | exact HB.out | apply below_alloc | apply pw_below_drewN | apply below_drew1) | exact HB.out)) hb); clear HB; have HB := n0_; clear n0_; (try clear hb); (try clear hb2); (try clear hk); (try clear hi)) | (go_at_call 16; (with_reducible refine (glob_Least.calls t206 t212 _ A11.out).mono ?_); rintro e w' ⟨rfl, ⟨nd, rfl⟩⟩) | (go_at_call 14; (with_reducible refine (glob_Match.calls k (t206 ++ (⟨#[42]⟩ : ByteArray)) (t207 ++ t208) true _ A15.out).mono ?_); rintro e w' ⟨rfl, ⟨nd, rfl⟩⟩) | (go_at_call 14; (with_reducible refine (glob_Match.calls k ((⟨#[42]⟩ : ByteArray) ++ t206) (t208 ++ t207) t214 _ A19.out).mono ?_); rintro e w' ⟨rfl, ⟨nd, rfl⟩⟩))
                  go_ret
                  exact ⟨by first | rfl | (simp [errW_none, errW_some] <;> rfl) | (simp [*, errW_none, errW_some] <;> rfl), by repeat (first | (with_reducible first | exact HB.out | apply below_alloc | apply pw_below_drewN | apply below_drew1) | exact HB.out)⟩
                · rw [if_neg c18] at H
                  exact absurd H (by simp)
              · rw [if_neg c17] at H
                exact absurd H (by simp)
            · replace c16 := Bool.eq_false_iff.mpr c16
              subst c16
              have H1 : (some false) = some r := by rw [if_neg (show ¬ (false = true) by decide)] at H; exact H
              clear H
              have H := H1
              clear H1
              obtain rfl := Option.some.inj H
              go_enter Try.func6, Try.ntmps6
              go_wp2_with (first | ((with_reducible refine gate_callee (f := 8) rfl ?_); refine goesL_ (some 8) rfl rfl Try.func8 (by kernel_rfl) rfl #[.string a0] rfl (by (try simp only [List.map_toArray, List.map_cons, List.map_nil]); first | done | rfl | (simp only [List.length_drop, List.length_take]; rfl)) ?_; (with_reducible refine (secateurlaw21_cut.calls a0 t206 _ A4.out).mono ?_); rintro e w' ⟨rfl, ⟨nd, rfl⟩⟩; refine ⟨_, rfl, ?_⟩) | ((with_reducible refine gate_callee (f := 8) rfl ?_); refine goesL_ (some 10) rfl rfl Try.func8 (by kernel_rfl) rfl #[.string a1] rfl (by (try simp only [List.map_toArray, List.map_cons, List.map_nil]); first | done | rfl | (simp only [List.length_drop, List.length_take]; rfl)) ?_; (with_reducible refine (secateurlaw21_cut.calls a1 t207 _ A5.out).mono ?_); rintro e w' ⟨rfl, ⟨nd, rfl⟩⟩; refine ⟨_, rfl, ?_⟩) | ((with_reducible refine gate_callee (f := 8) rfl ?_); refine goesL_ (some 12) rfl rfl Try.func8 (by kernel_rfl) rfl #[.string a2] rfl (by (try simp only [List.map_toArray, List.map_cons, List.map_nil]); first | done | rfl | (simp only [List.length_drop, List.length_take]; rfl)) ?_; (with_reducible refine (secateurlaw21_cut.calls a2 t208 _ A6.out).mono ?_); rintro e w' ⟨rfl, ⟨nd, rfl⟩⟩; refine ⟨_, rfl, ?_⟩) | ((with_reducible refine gate_callee (f := 14) rfl ?_); refine goesL_ (some 15) rfl rfl Try.func14 (by kernel_rfl) rfl #[.string t206, .string t207] rfl (by (try simp only [List.map_toArray, List.map_cons, List.map_nil]); first | done | rfl | (simp only [List.length_drop, List.length_take]; rfl)) ?_; (with_reducible refine (glob_Match.calls k t206 t207 true _ A7.out).mono ?_); rintro e w' ⟨rfl, ⟨nd, rfl⟩⟩; refine ⟨_, rfl, ?_⟩) | ((with_reducible refine gate_callee (f := 9) rfl ?_); refine goesL_ (some 18) rfl rfl Try.func9 (by kernel_rfl) rfl #[] rfl (by (try simp only [List.map_toArray, List.map_cons, List.map_nil]); first | done | rfl | (simp only [List.length_drop, List.length_take]; rfl)) ?_; (with_reducible refine (secateurlaw21_live.calls k  true _ A9.out).mono ?_); rintro e w21 ⟨rfl, hb⟩; refine ⟨_, rfl, ?_⟩; have n0_ := Aside0.mk (below_step (by repeat (first | (with_reducible first | exact HB.out | apply below_alloc | apply pw_below_drewN | apply below_drew1) | exact HB.out)) hb); clear HB; have HB := n0_; clear n0_; (try clear hb); (try clear hb2); (try clear hk); (try clear hi)) | (go_at_call 16; (with_reducible refine (glob_Least.calls t206 t212 _ A11.out).mono ?_); rintro e w' ⟨rfl, ⟨nd, rfl⟩⟩) | (go_at_call 14; (with_reducible refine (glob_Match.calls k (t206 ++ (⟨#[42]⟩ : ByteArray)) (t207 ++ t208) false _ A15.out).mono ?_); rintro e w' ⟨rfl, ⟨nd, rfl⟩⟩))
              go_ret
              exact ⟨by first | rfl | (simp [errW_none, errW_some] <;> rfl) | (simp [*, errW_none, errW_some] <;> rfl), by repeat (first | (with_reducible first | exact HB.out | apply below_alloc | apply pw_below_drewN | apply below_drew1) | exact HB.out)⟩
          · rw [if_neg c14] at H
            exact absurd H (by simp)
        · rw [if_neg c13] at H
          exact absurd H (by simp)
      · rw [if_neg c12] at H
        have c12b0 : decide (t212 ≤ (t207.size : Int)) = false := decide_eq_false c12
        clear c12
        obtain rfl := Option.some.inj H
        go_enter Try.func6, Try.ntmps6
        go_wp2_with (first | ((with_reducible refine gate_callee (f := 8) rfl ?_); refine goesL_ (some 8) rfl rfl Try.func8 (by kernel_rfl) rfl #[.string a0] rfl (by (try simp only [List.map_toArray, List.map_cons, List.map_nil]); first | done | rfl | (simp only [List.length_drop, List.length_take]; rfl)) ?_; (with_reducible refine (secateurlaw21_cut.calls a0 t206 _ A4.out).mono ?_); rintro e w' ⟨rfl, ⟨nd, rfl⟩⟩; refine ⟨_, rfl, ?_⟩) | ((with_reducible refine gate_callee (f := 8) rfl ?_); refine goesL_ (some 10) rfl rfl Try.func8 (by kernel_rfl) rfl #[.string a1] rfl (by (try simp only [List.map_toArray, List.map_cons, List.map_nil]); first | done | rfl | (simp only [List.length_drop, List.length_take]; rfl)) ?_; (with_reducible refine (secateurlaw21_cut.calls a1 t207 _ A5.out).mono ?_); rintro e w' ⟨rfl, ⟨nd, rfl⟩⟩; refine ⟨_, rfl, ?_⟩) | ((with_reducible refine gate_callee (f := 8) rfl ?_); refine goesL_ (some 12) rfl rfl Try.func8 (by kernel_rfl) rfl #[.string a2] rfl (by (try simp only [List.map_toArray, List.map_cons, List.map_nil]); first | done | rfl | (simp only [List.length_drop, List.length_take]; rfl)) ?_; (with_reducible refine (secateurlaw21_cut.calls a2 t208 _ A6.out).mono ?_); rintro e w' ⟨rfl, ⟨nd, rfl⟩⟩; refine ⟨_, rfl, ?_⟩) | ((with_reducible refine gate_callee (f := 14) rfl ?_); refine goesL_ (some 15) rfl rfl Try.func14 (by kernel_rfl) rfl #[.string t206, .string t207] rfl (by (try simp only [List.map_toArray, List.map_cons, List.map_nil]); first | done | rfl | (simp only [List.length_drop, List.length_take]; rfl)) ?_; (with_reducible refine (glob_Match.calls k t206 t207 true _ A7.out).mono ?_); rintro e w' ⟨rfl, ⟨nd, rfl⟩⟩; refine ⟨_, rfl, ?_⟩) | ((with_reducible refine gate_callee (f := 9) rfl ?_); refine goesL_ (some 18) rfl rfl Try.func9 (by kernel_rfl) rfl #[] rfl (by (try simp only [List.map_toArray, List.map_cons, List.map_nil]); first | done | rfl | (simp only [List.length_drop, List.length_take]; rfl)) ?_; (with_reducible refine (secateurlaw21_live.calls k  true _ A9.out).mono ?_); rintro e w22 ⟨rfl, hb⟩; refine ⟨_, rfl, ?_⟩; have n0_ := Aside0.mk (below_step (by repeat (first | (with_reducible first | exact HB.out | apply below_alloc | apply pw_below_drewN | apply below_drew1) | exact HB.out)) hb); clear HB; have HB := n0_; clear n0_; (try clear hb); (try clear hb2); (try clear hk); (try clear hi)) | (go_at_call 16; (with_reducible refine (glob_Least.calls t206 t212 _ A11.out).mono ?_); rintro e w' ⟨rfl, ⟨nd, rfl⟩⟩))
        go_ret
        exact ⟨by first | rfl | (simp [errW_none, errW_some] <;> rfl) | (simp [*, errW_none, errW_some] <;> rfl), by repeat (first | (with_reducible first | exact HB.out | apply below_alloc | apply pw_below_drewN | apply below_drew1) | exact HB.out)⟩
    · replace c10 := Bool.eq_false_iff.mpr c10
      subst c10
      have H1 : (some false) = some r := by rw [if_neg (show ¬ (false = true) by decide)] at H; exact H
      clear H
      have H := H1
      clear H1
      obtain rfl := Option.some.inj H
      go_enter Try.func6, Try.ntmps6
      go_wp2_with (first | ((with_reducible refine gate_callee (f := 8) rfl ?_); refine goesL_ (some 8) rfl rfl Try.func8 (by kernel_rfl) rfl #[.string a0] rfl (by (try simp only [List.map_toArray, List.map_cons, List.map_nil]); first | done | rfl | (simp only [List.length_drop, List.length_take]; rfl)) ?_; (with_reducible refine (secateurlaw21_cut.calls a0 t206 _ A4.out).mono ?_); rintro e w' ⟨rfl, ⟨nd, rfl⟩⟩; refine ⟨_, rfl, ?_⟩) | ((with_reducible refine gate_callee (f := 8) rfl ?_); refine goesL_ (some 10) rfl rfl Try.func8 (by kernel_rfl) rfl #[.string a1] rfl (by (try simp only [List.map_toArray, List.map_cons, List.map_nil]); first | done | rfl | (simp only [List.length_drop, List.length_take]; rfl)) ?_; (with_reducible refine (secateurlaw21_cut.calls a1 t207 _ A5.out).mono ?_); rintro e w' ⟨rfl, ⟨nd, rfl⟩⟩; refine ⟨_, rfl, ?_⟩) | ((with_reducible refine gate_callee (f := 8) rfl ?_); refine goesL_ (some 12) rfl rfl Try.func8 (by kernel_rfl) rfl #[.string a2] rfl (by (try simp only [List.map_toArray, List.map_cons, List.map_nil]); first | done | rfl | (simp only [List.length_drop, List.length_take]; rfl)) ?_; (with_reducible refine (secateurlaw21_cut.calls a2 t208 _ A6.out).mono ?_); rintro e w' ⟨rfl, ⟨nd, rfl⟩⟩; refine ⟨_, rfl, ?_⟩) | ((with_reducible refine gate_callee (f := 14) rfl ?_); refine goesL_ (some 15) rfl rfl Try.func14 (by kernel_rfl) rfl #[.string t206, .string t207] rfl (by (try simp only [List.map_toArray, List.map_cons, List.map_nil]); first | done | rfl | (simp only [List.length_drop, List.length_take]; rfl)) ?_; (with_reducible refine (glob_Match.calls k t206 t207 true _ A7.out).mono ?_); rintro e w' ⟨rfl, ⟨nd, rfl⟩⟩; refine ⟨_, rfl, ?_⟩) | ((with_reducible refine gate_callee (f := 9) rfl ?_); refine goesL_ (some 18) rfl rfl Try.func9 (by kernel_rfl) rfl #[] rfl (by (try simp only [List.map_toArray, List.map_cons, List.map_nil]); first | done | rfl | (simp only [List.length_drop, List.length_take]; rfl)) ?_; (with_reducible refine (secateurlaw21_live.calls k  false _ A9.out).mono ?_); rintro e w23 ⟨rfl, hb⟩; refine ⟨_, rfl, ?_⟩; have n0_ := Aside0.mk (below_step (by repeat (first | (with_reducible first | exact HB.out | apply below_alloc | apply pw_below_drewN | apply below_drew1) | exact HB.out)) hb); clear HB; have HB := n0_; clear n0_; (try clear hb); (try clear hb2); (try clear hk); (try clear hi)))
      go_ret
      exact ⟨by first | rfl | (simp [errW_none, errW_some] <;> rfl) | (simp [*, errW_none, errW_some] <;> rfl), by repeat (first | (with_reducible first | exact HB.out | apply below_alloc | apply pw_below_drewN | apply below_drew1) | exact HB.out)⟩
  · replace c8 := Bool.eq_false_iff.mpr c8
    subst c8
    have H1 : ((secateurlaw21_live.f k).bind fun t210 => (some t210)) = some r := by rw [if_neg (show ¬ (false = true) by decide)] at H; exact H
    clear H
    have H := H1
    clear H1
    replace H := Option.bind_eq_some_iff.mp H
    obtain ⟨t210, A240, H⟩ := H
    replace H : (some t210) = some r := H
    have A24 := Aside0.mk A240
    clear A240
    obtain rfl := Option.some.inj H
    go_enter Try.func6, Try.ntmps6
    go_wp2_with (first | ((with_reducible refine gate_callee (f := 8) rfl ?_); refine goesL_ (some 8) rfl rfl Try.func8 (by kernel_rfl) rfl #[.string a0] rfl (by (try simp only [List.map_toArray, List.map_cons, List.map_nil]); first | done | rfl | (simp only [List.length_drop, List.length_take]; rfl)) ?_; (with_reducible refine (secateurlaw21_cut.calls a0 t206 _ A4.out).mono ?_); rintro e w' ⟨rfl, ⟨nd, rfl⟩⟩; refine ⟨_, rfl, ?_⟩) | ((with_reducible refine gate_callee (f := 8) rfl ?_); refine goesL_ (some 10) rfl rfl Try.func8 (by kernel_rfl) rfl #[.string a1] rfl (by (try simp only [List.map_toArray, List.map_cons, List.map_nil]); first | done | rfl | (simp only [List.length_drop, List.length_take]; rfl)) ?_; (with_reducible refine (secateurlaw21_cut.calls a1 t207 _ A5.out).mono ?_); rintro e w' ⟨rfl, ⟨nd, rfl⟩⟩; refine ⟨_, rfl, ?_⟩) | ((with_reducible refine gate_callee (f := 8) rfl ?_); refine goesL_ (some 12) rfl rfl Try.func8 (by kernel_rfl) rfl #[.string a2] rfl (by (try simp only [List.map_toArray, List.map_cons, List.map_nil]); first | done | rfl | (simp only [List.length_drop, List.length_take]; rfl)) ?_; (with_reducible refine (secateurlaw21_cut.calls a2 t208 _ A6.out).mono ?_); rintro e w' ⟨rfl, ⟨nd, rfl⟩⟩; refine ⟨_, rfl, ?_⟩) | ((with_reducible refine gate_callee (f := 14) rfl ?_); refine goesL_ (some 15) rfl rfl Try.func14 (by kernel_rfl) rfl #[.string t206, .string t207] rfl (by (try simp only [List.map_toArray, List.map_cons, List.map_nil]); first | done | rfl | (simp only [List.length_drop, List.length_take]; rfl)) ?_; (with_reducible refine (glob_Match.calls k t206 t207 false _ A7.out).mono ?_); rintro e w' ⟨rfl, ⟨nd, rfl⟩⟩; refine ⟨_, rfl, ?_⟩) | ((with_reducible refine gate_callee (f := 9) rfl ?_); refine goesL_ (some 17) rfl rfl Try.func9 (by kernel_rfl) rfl #[] rfl (by (try simp only [List.map_toArray, List.map_cons, List.map_nil]); first | done | rfl | (simp only [List.length_drop, List.length_take]; rfl)) ?_; (with_reducible refine (secateurlaw21_live.calls k  t210 _ A24.out).mono ?_); rintro e w25 ⟨rfl, hb⟩; refine ⟨_, rfl, ?_⟩; have n0_ := Aside0.mk (below_step (by repeat (first | (with_reducible first | exact HB.out | apply below_alloc | apply pw_below_drewN | apply below_drew1) | exact HB.out)) hb); clear HB; have HB := n0_; clear n0_; (try clear hb); (try clear hb2); (try clear hk); (try clear hi)))
    go_ret
    exact ⟨by first | rfl | (simp [errW_none, errW_some] <;> rfl) | (simp [*, errW_none, errW_some] <;> rfl), by repeat (first | (with_reducible first | exact HB.out | apply below_alloc | apply pw_below_drewN | apply below_drew1) | exact HB.out)⟩

/-- THE ONE PURE STATEMENT of secateurlaw21_GlobLong: yours. -/
def secateurlaw21_GlobLong.Pure : Prop := ∀ (a0 : ByteArray) (a1 : ByteArray) (a2 : ByteArray), a0.size ≤ 140737488351232 → a1.size ≤ 140737488351232 → a2.size ≤ 140737488351232 → ∃ k, secateurlaw21_GlobLong.f k a0 a1 a2 = some true
theorem secateurlaw21_GlobLong.walk (P : secateurlaw21_GlobLong.Pure) (a0 : ByteArray) (a1 : ByteArray) (a2 : ByteArray) (w : World) (w0 : a0.size ≤ 140737488351232) (w1 : a1.size ≤ 140737488351232) (w2 : a2.size ≤ 140737488351232) :
    Calls Try.prog 6 #[.string a0, .string a1, .string a2] w fun e w' => e = .returned (.bool true) ∧ Below w.heap.size w w' := by
  obtain ⟨k, h⟩ := P a0 a1 a2 w0 w1 w2
  refine (secateurlaw21_GlobLong.calls k a0 a1 a2 true w h).mono ?_
  rintro e w' ⟨rfl, hd⟩
  exact ⟨rfl, hd⟩

end Go.Proofs.Ytbdaledkkbkhgaa.PGlob
