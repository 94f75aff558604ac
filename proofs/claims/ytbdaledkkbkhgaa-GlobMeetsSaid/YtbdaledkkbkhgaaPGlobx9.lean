/- Part of a proof of this seat's statements: plain functions, contracts and rows, written by a program (the kit's printer, some functions given by hand) out of the translation; no conditions of its own. -/
import Derived.Test.YtbdaledkkbkhgaaPGlobx0
import Derived.Test.YtbdaledkkbkhgaaPGlobx1
import Derived.Test.YtbdaledkkbkhgaaPGlobx3
import Derived.Test.YtbdaledkkbkhgaaPGlobx4
import Derived.Test.YtbdaledkkbkhgaaPGlobx8
namespace Go.Proofs.Ytbdaledkkbkhgaa.PGlob
open Go.RowKit Go.Proofs.YtbdaledkkbkhgaaW.PrintWords Go.Proofs.YtbdaledkkbkhgaaW.PrintLast Go.Proofs.YtbdaledkkbkhgaaW.PrintMore
attribute [local go_sem] max2_int min2_int max_two min_two max_three min_three max_four min_four   -- for this text's walks alone
set_option linter.unusedVariables false
set_option linter.unusedSimpArgs false

/-! ### secateurlaw21_GlobMeets: function 7 -/
def secateurlaw21_GlobMeets.j0 : Nat → ByteArray → ByteArray → ByteArray → Bool → Bool → Option (Bool)
  | 0, _, _, _, _, _ => none
  | k + 1, x0, x1, x2, x7, x43 => if x43 = true then (some false) else (if x7 = true then (some true) else ((glob_Match.f k x0 x2).bind fun t248 => (if t248 = true then ((glob_Match.f k x1 x2).bind fun t249 => (some (!t249))) else (some true))))
def secateurlaw21_GlobMeets.f (k : Nat) (a0 : ByteArray) (a1 : ByteArray) (a2 : ByteArray) : Option (Bool) := (secateurlaw21_cut.f a0).bind fun t239 => ((secateurlaw21_cut.f a1).bind fun t240 => ((secateurlaw21_cut.f a2).bind fun t241 => ((glob_Meets.f k t239 t240).bind fun t242 => ((secateurlaw21_live.f k).bind fun t243 => (if t243 = true then ((secateurref21_Meets.f k t239 t240).bind fun t244 => (if (t242 != t244) = true then (secateurlaw21_GlobMeets.j0 k t239 t240 t241 t242 true) else ((glob_Meets.f k t240 t239).bind fun t245 => (if (t242 != t245) = true then (secateurlaw21_GlobMeets.j0 k t239 t240 t241 t242 true) else ((glob_Plain.f t239).bind fun t246 => (if t246 = true then ((glob_Match.f k t240 t239).bind fun t247 => (secateurlaw21_GlobMeets.j0 k t239 t240 t241 t242 (t242 != t247))) else (secateurlaw21_GlobMeets.j0 k t239 t240 t241 t242 false))))))) else (secateurlaw21_GlobMeets.j0 k t239 t240 t241 t242 true))))))
theorem secateurlaw21_GlobMeets.mono_l : ∀ k, (∀ y0 y1 y2 y3 y4, LeO (secateurlaw21_GlobMeets.j0 k y0 y1 y2 y3 y4) (secateurlaw21_GlobMeets.j0 (k + 1) y0 y1 y2 y3 y4))
  | 0 => fun _ _ _ _ _ r h => by simp [secateurlaw21_GlobMeets.j0] at h
  | k + 1 => by
    have ih0 := secateurlaw21_GlobMeets.mono_l k
    · intro y0 y1 y2 y3 y4
      unfold secateurlaw21_GlobMeets.j0
      repeat' first
      | (with_reducible exact ih0 _ _ _ _ _)
      | (with_reducible exact glob_Match.mono _ _ _)
      | (with_reducible exact glob_Meets.mono _ _ _)
      | (with_reducible exact secateurlaw21_live.mono _)
      | (with_reducible exact secateurref21_Meets.mono _ _ _)
      | (with_reducible exact LeO.refl _)
      | (with_reducible exact LeO.none _)
      | (with_reducible refine LeO.ite ?_ ?_)
      | (with_reducible refine LeO.bind ?_ (fun _ => ?_))
      | exact ih0 _ _ _ _ _
      | exact glob_Match.mono _ _ _
      | exact glob_Meets.mono _ _ _
      | exact secateurlaw21_live.mono _
      | exact secateurref21_Meets.mono _ _ _
      | exact LeO.none _
      | refine LeO.ite ?_ ?_
      | refine LeO.bind ?_ (fun _ => ?_)
theorem secateurlaw21_GlobMeets.mono : ∀ a0 a1 a2 k, LeO (secateurlaw21_GlobMeets.f k a0 a1 a2) (secateurlaw21_GlobMeets.f (k + 1) a0 a1 a2) := by
  intro a0 a1 a2 k
  have ih0 := secateurlaw21_GlobMeets.mono_l k
  unfold secateurlaw21_GlobMeets.f
  repeat' first
      | (with_reducible exact ih0 _ _ _ _ _)
      | (with_reducible exact glob_Match.mono _ _ _)
      | (with_reducible exact glob_Meets.mono _ _ _)
      | (with_reducible exact secateurlaw21_live.mono _)
      | (with_reducible exact secateurref21_Meets.mono _ _ _)
      | (with_reducible exact LeO.refl _)
      | (with_reducible exact LeO.none _)
      | (with_reducible refine LeO.ite ?_ ?_)
      | (with_reducible refine LeO.bind ?_ (fun _ => ?_))
      | exact ih0 _ _ _ _ _
      | exact glob_Match.mono _ _ _
      | exact glob_Meets.mono _ _ _
      | exact secateurlaw21_live.mono _
      | exact secateurref21_Meets.mono _ _ _
      | exact LeO.none _
      | refine LeO.ite ?_ ?_
      | refine LeO.bind ?_ (fun _ => ?_)
set_option maxHeartbeats 8000000 in
set_option maxRecDepth 100000 in
theorem secateurlaw21_GlobMeets.calls (k : Nat) (a0 : ByteArray) (a1 : ByteArray) (a2 : ByteArray) (r : Bool) (w : World) (h : secateurlaw21_GlobMeets.f k a0 a1 a2 = some r) :
    Calls Try.prog 7 #[.string a0, .string a1, .string a2] w fun e w' => e = .returned (.bool r) ∧ Below w.heap.size w w' := by
  have HB := Aside0.mk (Below.refl w.heap.size w)
  have H : ((secateurlaw21_cut.f a0).bind fun t239 => ((secateurlaw21_cut.f a1).bind fun t240 => ((secateurlaw21_cut.f a2).bind fun t241 => ((glob_Meets.f k t239 t240).bind fun t242 => ((secateurlaw21_live.f k).bind fun t243 => (if t243 = true then ((secateurref21_Meets.f k t239 t240).bind fun t244 => (if (t242 != t244) = true then (secateurlaw21_GlobMeets.j0 k t239 t240 t241 t242 true) else ((glob_Meets.f k t240 t239).bind fun t245 => (if (t242 != t245) = true then (secateurlaw21_GlobMeets.j0 k t239 t240 t241 t242 true) else ((glob_Plain.f t239).bind fun t246 => (if t246 = true then ((glob_Match.f k t240 t239).bind fun t247 => (secateurlaw21_GlobMeets.j0 k t239 t240 t241 t242 (t242 != t247))) else (secateurlaw21_GlobMeets.j0 k t239 t240 t241 t242 false))))))) else (secateurlaw21_GlobMeets.j0 k t239 t240 t241 t242 true))))))) = some r := h
  clear h
  replace H := Option.bind_eq_some_iff.mp H
  obtain ⟨t239, A40, H⟩ := H
  replace H : ((secateurlaw21_cut.f a1).bind fun t240 => ((secateurlaw21_cut.f a2).bind fun t241 => ((glob_Meets.f k t239 t240).bind fun t242 => ((secateurlaw21_live.f k).bind fun t243 => (if t243 = true then ((secateurref21_Meets.f k t239 t240).bind fun t244 => (if (t242 != t244) = true then (secateurlaw21_GlobMeets.j0 k t239 t240 t241 t242 true) else ((glob_Meets.f k t240 t239).bind fun t245 => (if (t242 != t245) = true then (secateurlaw21_GlobMeets.j0 k t239 t240 t241 t242 true) else ((glob_Plain.f t239).bind fun t246 => (if t246 = true then ((glob_Match.f k t240 t239).bind fun t247 => (secateurlaw21_GlobMeets.j0 k t239 t240 t241 t242 (t242 != t247))) else (secateurlaw21_GlobMeets.j0 k t239 t240 t241 t242 false))))))) else (secateurlaw21_GlobMeets.j0 k t239 t240 t241 t242 true)))))) = some r := H
  have A4 := Aside0.mk A40
  clear A40
  replace H := Option.bind_eq_some_iff.mp H
  obtain ⟨t240, A50, H⟩ := H
  replace H : ((secateurlaw21_cut.f a2).bind fun t241 => ((glob_Meets.f k t239 t240).bind fun t242 => ((secateurlaw21_live.f k).bind fun t243 => (if t243 = true then ((secateurref21_Meets.f k t239 t240).bind fun t244 => (if (t242 != t244) = true then (secateurlaw21_GlobMeets.j0 k t239 t240 t241 t242 true) else ((glob_Meets.f k t240 t239).bind fun t245 => (if (t242 != t245) = true then (secateurlaw21_GlobMeets.j0 k t239 t240 t241 t242 true) else ((glob_Plain.f t239).bind fun t246 => (if t246 = true then ((glob_Match.f k t240 t239).bind fun t247 => (secateurlaw21_GlobMeets.j0 k t239 t240 t241 t242 (t242 != t247))) else (secateurlaw21_GlobMeets.j0 k t239 t240 t241 t242 false))))))) else (secateurlaw21_GlobMeets.j0 k t239 t240 t241 t242 true))))) = some r := H
  have A5 := Aside0.mk A50
  clear A50
  replace H := Option.bind_eq_some_iff.mp H
  obtain ⟨t241, A60, H⟩ := H
  replace H : ((glob_Meets.f k t239 t240).bind fun t242 => ((secateurlaw21_live.f k).bind fun t243 => (if t243 = true then ((secateurref21_Meets.f k t239 t240).bind fun t244 => (if (t242 != t244) = true then (secateurlaw21_GlobMeets.j0 k t239 t240 t241 t242 true) else ((glob_Meets.f k t240 t239).bind fun t245 => (if (t242 != t245) = true then (secateurlaw21_GlobMeets.j0 k t239 t240 t241 t242 true) else ((glob_Plain.f t239).bind fun t246 => (if t246 = true then ((glob_Match.f k t240 t239).bind fun t247 => (secateurlaw21_GlobMeets.j0 k t239 t240 t241 t242 (t242 != t247))) else (secateurlaw21_GlobMeets.j0 k t239 t240 t241 t242 false))))))) else (secateurlaw21_GlobMeets.j0 k t239 t240 t241 t242 true)))) = some r := H
  have A6 := Aside0.mk A60
  clear A60
  replace H := Option.bind_eq_some_iff.mp H
  obtain ⟨t242, A70, H⟩ := H
  replace H : ((secateurlaw21_live.f k).bind fun t243 => (if t243 = true then ((secateurref21_Meets.f k t239 t240).bind fun t244 => (if (t242 != t244) = true then (secateurlaw21_GlobMeets.j0 k t239 t240 t241 t242 true) else ((glob_Meets.f k t240 t239).bind fun t245 => (if (t242 != t245) = true then (secateurlaw21_GlobMeets.j0 k t239 t240 t241 t242 true) else ((glob_Plain.f t239).bind fun t246 => (if t246 = true then ((glob_Match.f k t240 t239).bind fun t247 => (secateurlaw21_GlobMeets.j0 k t239 t240 t241 t242 (t242 != t247))) else (secateurlaw21_GlobMeets.j0 k t239 t240 t241 t242 false))))))) else (secateurlaw21_GlobMeets.j0 k t239 t240 t241 t242 true))) = some r := H
  have A7 := Aside0.mk A70
  clear A70
  have HC8 := Aside0.mk H
  clear H
  go_enter Try.func7, Try.ntmps7
  go_upto_region 3 with (first | ((with_reducible refine gate_callee (f := 8) rfl ?_); refine goesL_ (some 9) rfl rfl Try.func8 (by kernel_rfl) rfl #[.string a0] rfl (by (try simp only [List.map_toArray, List.map_cons, List.map_nil]); first | done | rfl | (simp only [List.length_drop, List.length_take]; rfl)) ?_; (with_reducible refine (secateurlaw21_cut.calls a0 t239 _ A4.out).mono ?_); rintro e w' ⟨rfl, ⟨nd, rfl⟩⟩; refine ⟨_, rfl, ?_⟩) | ((with_reducible refine gate_callee (f := 8) rfl ?_); refine goesL_ (some 11) rfl rfl Try.func8 (by kernel_rfl) rfl #[.string a1] rfl (by (try simp only [List.map_toArray, List.map_cons, List.map_nil]); first | done | rfl | (simp only [List.length_drop, List.length_take]; rfl)) ?_; (with_reducible refine (secateurlaw21_cut.calls a1 t240 _ A5.out).mono ?_); rintro e w' ⟨rfl, ⟨nd, rfl⟩⟩; refine ⟨_, rfl, ?_⟩) | ((with_reducible refine gate_callee (f := 8) rfl ?_); refine goesL_ (some 13) rfl rfl Try.func8 (by kernel_rfl) rfl #[.string a2] rfl (by (try simp only [List.map_toArray, List.map_cons, List.map_nil]); first | done | rfl | (simp only [List.length_drop, List.length_take]; rfl)) ?_; (with_reducible refine (secateurlaw21_cut.calls a2 t241 _ A6.out).mono ?_); rintro e w' ⟨rfl, ⟨nd, rfl⟩⟩; refine ⟨_, rfl, ?_⟩) | ((with_reducible refine gate_callee (f := 21) rfl ?_); refine goesL_ (some 16) rfl rfl Try.func21 (by kernel_rfl) rfl #[.string t239, .string t240] rfl (by (try simp only [List.map_toArray, List.map_cons, List.map_nil]); first | done | rfl | (simp only [List.length_drop, List.length_take]; rfl)) ?_; (with_reducible refine (glob_Meets.calls k t239 t240 t242 _ A7.out).mono ?_); rintro e w9 ⟨rfl, hb⟩; refine ⟨_, rfl, ?_⟩; have n0_ := Aside0.mk (below_step (by repeat (first | (with_reducible first | exact HB.out | apply below_alloc | apply pw_below_drewN | apply below_drew1) | exact HB.out)) hb); clear HB; have HB := n0_; clear n0_; (try clear hb); (try clear hb2); (try clear hk); (try clear hi)))
  (try simp only [Act.put, List.setIfInBounds_toArray, List.set_cons_zero, List.set_cons_succ])
  go_cut [43] (fun v43 wc => ∃ (kq : Nat) (x43_7 : Bool), v43 = .bool x43_7 ∧ Aside0 (secateurlaw21_GlobMeets.j0 kq t239 t240 t241 t242 x43_7 = some r) ∧ Aside0 (kq ≤ k) ∧ Aside0 (Below w.heap.size w wc))
  case first =>
    have H := HC8.out
    clear HC8
    replace H := Option.bind_eq_some_iff.mp H
    obtain ⟨t243, A100, H⟩ := H
    replace H : (if t243 = true then ((secateurref21_Meets.f k t239 t240).bind fun t244 => (if (t242 != t244) = true then (secateurlaw21_GlobMeets.j0 k t239 t240 t241 t242 true) else ((glob_Meets.f k t240 t239).bind fun t245 => (if (t242 != t245) = true then (secateurlaw21_GlobMeets.j0 k t239 t240 t241 t242 true) else ((glob_Plain.f t239).bind fun t246 => (if t246 = true then ((glob_Match.f k t240 t239).bind fun t247 => (secateurlaw21_GlobMeets.j0 k t239 t240 t241 t242 (t242 != t247))) else (secateurlaw21_GlobMeets.j0 k t239 t240 t241 t242 false))))))) else (secateurlaw21_GlobMeets.j0 k t239 t240 t241 t242 true)) = some r := H
    have A10 := Aside0.mk A100
    clear A100
    by_cases c11 : t243 = true
    · subst c11
      have H1 : ((secateurref21_Meets.f k t239 t240).bind fun t244 => (if (t242 != t244) = true then (secateurlaw21_GlobMeets.j0 k t239 t240 t241 t242 true) else ((glob_Meets.f k t240 t239).bind fun t245 => (if (t242 != t245) = true then (secateurlaw21_GlobMeets.j0 k t239 t240 t241 t242 true) else ((glob_Plain.f t239).bind fun t246 => (if t246 = true then ((glob_Match.f k t240 t239).bind fun t247 => (secateurlaw21_GlobMeets.j0 k t239 t240 t241 t242 (t242 != t247))) else (secateurlaw21_GlobMeets.j0 k t239 t240 t241 t242 false))))))) = some r := by rw [if_pos rfl] at H; exact H
      clear H
      have H := H1
      clear H1
      replace H := Option.bind_eq_some_iff.mp H
      obtain ⟨t244, A120, H⟩ := H
      replace H : (if (t242 != t244) = true then (secateurlaw21_GlobMeets.j0 k t239 t240 t241 t242 true) else ((glob_Meets.f k t240 t239).bind fun t245 => (if (t242 != t245) = true then (secateurlaw21_GlobMeets.j0 k t239 t240 t241 t242 true) else ((glob_Plain.f t239).bind fun t246 => (if t246 = true then ((glob_Match.f k t240 t239).bind fun t247 => (secateurlaw21_GlobMeets.j0 k t239 t240 t241 t242 (t242 != t247))) else (secateurlaw21_GlobMeets.j0 k t239 t240 t241 t242 false)))))) = some r := H
      have A12 := Aside0.mk A120
      clear A120
      by_cases c13 : (t242 != t244) = true
      · rw [if_pos c13] at H
        have c13b0 : (t242 != t244) = true := c13
        (try (have c13b1 : decide (t242 = t244) = false := by simpa using c13))
        (try (have c13b2 : (t242 == t244) = false := by simpa using c13))
        (try (have c13b3 : ¬ (t242 = t244) := by simpa using c13))
        clear c13
        (first | rw [c13b0] | (simp only [i64_w, i32_w]; rw [c13b0]) | skip)
        have H' := Aside0.mk H
        clear H
        go_wp2_with (first | ((with_reducible refine gate_callee (f := 9) rfl ?_); refine goesL_ (some 17) rfl rfl Try.func9 (by kernel_rfl) rfl #[] rfl (by (try simp only [List.map_toArray, List.map_cons, List.map_nil]); first | done | rfl | (simp only [List.length_drop, List.length_take]; rfl)) ?_; (with_reducible refine (secateurlaw21_live.calls k  true _ A10.out).mono ?_); rintro e w14 ⟨rfl, hb⟩; refine ⟨_, rfl, ?_⟩; have n0_ := Aside0.mk (below_step (by repeat (first | (with_reducible first | exact HB.out | apply below_alloc | apply pw_below_drewN | apply below_drew1) | exact HB.out)) hb); clear HB; have HB := n0_; clear n0_; (try clear hb); (try clear hb2); (try clear hk); (try clear hi)) | (go_at_call 22; (with_reducible refine (secateurref21_Meets.calls k t239 t240 t244 _ A12.out).mono ?_); rintro e w15 ⟨rfl, hb⟩; have n0_ := Aside0.mk (below_step (by repeat (first | (with_reducible first | exact HB.out | apply below_alloc | apply pw_below_drewN | apply below_drew1) | exact HB.out)) hb); clear HB; have HB := n0_; clear n0_; (try clear hb); (try clear hb2); (try clear hk); (try clear hi)))
        go_meet
        case rel => exact ⟨_, (true), (by first | rfl | (simp; done) | (simp [*]; done)), H', ⟨by first | omega | exact Nat.le_refl _⟩, ⟨by repeat (first | (with_reducible first | exact HB.out | apply below_alloc | apply pw_below_drewN | apply below_drew1) | exact HB.out)⟩⟩
      · rw [if_neg c13] at H
        have c13b0 : (t242 != t244) = false := by simpa using c13
        (try (have c13b1 : decide (t242 = t244) = true := by simpa using c13))
        (try (have c13b2 : (t242 == t244) = true := by simpa using c13))
        clear c13
        (first | rw [c13b0] | (simp only [i64_w, i32_w]; rw [c13b0]) | skip)
        replace H := Option.bind_eq_some_iff.mp H
        obtain ⟨t245, A160, H⟩ := H
        replace H : (if (t242 != t245) = true then (secateurlaw21_GlobMeets.j0 k t239 t240 t241 t242 true) else ((glob_Plain.f t239).bind fun t246 => (if t246 = true then ((glob_Match.f k t240 t239).bind fun t247 => (secateurlaw21_GlobMeets.j0 k t239 t240 t241 t242 (t242 != t247))) else (secateurlaw21_GlobMeets.j0 k t239 t240 t241 t242 false)))) = some r := H
        have A16 := Aside0.mk A160
        clear A160
        by_cases c17 : (t242 != t245) = true
        · rw [if_pos c17] at H
          have c17b0 : (t242 != t245) = true := c17
          (try (have c17b1 : decide (t242 = t245) = false := by simpa using c17))
          (try (have c17b2 : (t242 == t245) = false := by simpa using c17))
          (try (have c17b3 : ¬ (t242 = t245) := by simpa using c17))
          clear c17
          have H' := Aside0.mk H
          clear H
          go_wp2_with (first | ((with_reducible refine gate_callee (f := 9) rfl ?_); refine goesL_ (some 17) rfl rfl Try.func9 (by kernel_rfl) rfl #[] rfl (by (try simp only [List.map_toArray, List.map_cons, List.map_nil]); first | done | rfl | (simp only [List.length_drop, List.length_take]; rfl)) ?_; (with_reducible refine (secateurlaw21_live.calls k  true _ A10.out).mono ?_); rintro e w18 ⟨rfl, hb⟩; refine ⟨_, rfl, ?_⟩; have n0_ := Aside0.mk (below_step (by repeat (first | (with_reducible first | exact HB.out | apply below_alloc | apply pw_below_drewN | apply below_drew1) | exact HB.out)) hb); clear HB; have HB := n0_; clear n0_; (try clear hb); (try clear hb2); (try clear hk); (try clear hi)) | (go_at_call 22; (with_reducible refine (secateurref21_Meets.calls k t239 t240 t244 _ A12.out).mono ?_); rintro e w19 ⟨rfl, hb⟩; have n0_ := Aside0.mk (below_step (by repeat (first | (with_reducible first | exact HB.out | apply below_alloc | apply pw_below_drewN | apply below_drew1) | exact HB.out)) hb); clear HB; have HB := n0_; clear n0_; (try clear hb); (try clear hb2); (try clear hk); (try clear hi)) | (go_at_call 21; (with_reducible refine (glob_Meets.calls k t240 t239 t245 _ A16.out).mono ?_); rintro e w20 ⟨rfl, hb⟩; have n0_ := Aside0.mk (below_step (by repeat (first | (with_reducible first | exact HB.out | apply below_alloc | apply pw_below_drewN | apply below_drew1) | exact HB.out)) hb); clear HB; have HB := n0_; clear n0_; (try clear hb); (try clear hb2); (try clear hk); (try clear hi)))
          go_meet
          case rel => exact ⟨_, (true), (by first | rfl | (simp; done) | (simp [*]; done)), H', ⟨by first | omega | exact Nat.le_refl _⟩, ⟨by repeat (first | (with_reducible first | exact HB.out | apply below_alloc | apply pw_below_drewN | apply below_drew1) | exact HB.out)⟩⟩
        · rw [if_neg c17] at H
          have c17b0 : (t242 != t245) = false := by simpa using c17
          (try (have c17b1 : decide (t242 = t245) = true := by simpa using c17))
          (try (have c17b2 : (t242 == t245) = true := by simpa using c17))
          clear c17
          replace H := Option.bind_eq_some_iff.mp H
          obtain ⟨t246, A210, H⟩ := H
          replace H : (if t246 = true then ((glob_Match.f k t240 t239).bind fun t247 => (secateurlaw21_GlobMeets.j0 k t239 t240 t241 t242 (t242 != t247))) else (secateurlaw21_GlobMeets.j0 k t239 t240 t241 t242 false)) = some r := H
          have A21 := Aside0.mk A210
          clear A210
          by_cases c22 : t246 = true
          · subst c22
            have H1 : ((glob_Match.f k t240 t239).bind fun t247 => (secateurlaw21_GlobMeets.j0 k t239 t240 t241 t242 (t242 != t247))) = some r := by rw [if_pos rfl] at H; exact H
            clear H
            have H := H1
            clear H1
            replace H := Option.bind_eq_some_iff.mp H
            obtain ⟨t247, A230, H⟩ := H
            replace H : (secateurlaw21_GlobMeets.j0 k t239 t240 t241 t242 (t242 != t247)) = some r := H
            have A23 := Aside0.mk A230
            clear A230
            have H' := Aside0.mk H
            clear H
            go_wp2_with (first | ((with_reducible refine gate_callee (f := 9) rfl ?_); refine goesL_ (some 17) rfl rfl Try.func9 (by kernel_rfl) rfl #[] rfl (by (try simp only [List.map_toArray, List.map_cons, List.map_nil]); first | done | rfl | (simp only [List.length_drop, List.length_take]; rfl)) ?_; (with_reducible refine (secateurlaw21_live.calls k  true _ A10.out).mono ?_); rintro e w24 ⟨rfl, hb⟩; refine ⟨_, rfl, ?_⟩; have n0_ := Aside0.mk (below_step (by repeat (first | (with_reducible first | exact HB.out | apply below_alloc | apply pw_below_drewN | apply below_drew1) | exact HB.out)) hb); clear HB; have HB := n0_; clear n0_; (try clear hb); (try clear hb2); (try clear hk); (try clear hi)) | (go_at_call 22; (with_reducible refine (secateurref21_Meets.calls k t239 t240 t244 _ A12.out).mono ?_); rintro e w25 ⟨rfl, hb⟩; have n0_ := Aside0.mk (below_step (by repeat (first | (with_reducible first | exact HB.out | apply below_alloc | apply pw_below_drewN | apply below_drew1) | exact HB.out)) hb); clear HB; have HB := n0_; clear n0_; (try clear hb); (try clear hb2); (try clear hk); (try clear hi)) | (go_at_call 21; (with_reducible refine (glob_Meets.calls k t240 t239 t245 _ A16.out).mono ?_); rintro e w26 ⟨rfl, hb⟩; have n0_ := Aside0.mk (below_step (by repeat (first | (with_reducible first | exact HB.out | apply below_alloc | apply pw_below_drewN | apply below_drew1) | exact HB.out)) hb); clear HB; have HB := n0_; clear n0_; (try clear hb); (try clear hb2); (try clear hk); (try clear hi)) | (go_at_call 12; (with_reducible refine (glob_Plain.calls t239 true _ A21.out).mono ?_); rintro e w27 ⟨rfl, hb⟩; have n0_ := Aside0.mk (below_step (by repeat (first | (with_reducible first | exact HB.out | apply below_alloc | apply pw_below_drewN | apply below_drew1) | exact HB.out)) hb); clear HB; have HB := n0_; clear n0_; (try clear hb); (try clear hb2); (try clear hk); (try clear hi)) | (go_at_call 14; (with_reducible refine (glob_Match.calls k t240 t239 t247 _ A23.out).mono ?_); rintro e w' ⟨rfl, ⟨nd, rfl⟩⟩))
            go_meet
            case rel => exact ⟨_, ((t242 != t247)), (by first | rfl | (simp; done) | (simp [*]; done)), H', ⟨by first | omega | exact Nat.le_refl _⟩, ⟨by repeat (first | (with_reducible first | exact HB.out | apply below_alloc | apply pw_below_drewN | apply below_drew1) | exact HB.out)⟩⟩
          · replace c22 := Bool.eq_false_iff.mpr c22
            subst c22
            have H1 : (secateurlaw21_GlobMeets.j0 k t239 t240 t241 t242 false) = some r := by rw [if_neg (show ¬ (false = true) by decide)] at H; exact H
            clear H
            have H := H1
            clear H1
            have H' := Aside0.mk H
            clear H
            go_wp2_with (first | ((with_reducible refine gate_callee (f := 9) rfl ?_); refine goesL_ (some 17) rfl rfl Try.func9 (by kernel_rfl) rfl #[] rfl (by (try simp only [List.map_toArray, List.map_cons, List.map_nil]); first | done | rfl | (simp only [List.length_drop, List.length_take]; rfl)) ?_; (with_reducible refine (secateurlaw21_live.calls k  true _ A10.out).mono ?_); rintro e w28 ⟨rfl, hb⟩; refine ⟨_, rfl, ?_⟩; have n0_ := Aside0.mk (below_step (by repeat (first | (with_reducible first | exact HB.out | apply below_alloc | apply pw_below_drewN | apply below_drew1) | exact HB.out)) hb); clear HB; have HB := n0_; clear n0_; (try clear hb); (try clear hb2); (try clear hk); (try clear hi)) | (go_at_call 22; (with_reducible refine (secateurref21_Meets.calls k t239 t240 t244 _ A12.out).mono ?_); rintro e w29 ⟨rfl, hb⟩; have n0_ := Aside0.mk (below_step (by repeat (first | (with_reducible first | exact HB.out | apply below_alloc | apply pw_below_drewN | apply below_drew1) | exact HB.out)) hb); clear HB; have HB := n0_; clear n0_; (try clear hb); (try clear hb2); (try clear hk); (try clear hi)) | (go_at_call 21; (with_reducible refine (glob_Meets.calls k t240 t239 t245 _ A16.out).mono ?_); rintro e w30 ⟨rfl, hb⟩; have n0_ := Aside0.mk (below_step (by repeat (first | (with_reducible first | exact HB.out | apply below_alloc | apply pw_below_drewN | apply below_drew1) | exact HB.out)) hb); clear HB; have HB := n0_; clear n0_; (try clear hb); (try clear hb2); (try clear hk); (try clear hi)) | (go_at_call 12; (with_reducible refine (glob_Plain.calls t239 false _ A21.out).mono ?_); rintro e w31 ⟨rfl, hb⟩; have n0_ := Aside0.mk (below_step (by repeat (first | (with_reducible first | exact HB.out | apply below_alloc | apply pw_below_drewN | apply below_drew1) | exact HB.out)) hb); clear HB; have HB := n0_; clear n0_; (try clear hb); (try clear hb2); (try clear hk); (try clear hi)))
            go_meet
            case rel => exact ⟨_, (false), (by first | rfl | (simp; done) | (simp [*]; done)), H', ⟨by first | omega | exact Nat.le_refl _⟩, ⟨by repeat (first | (with_reducible first | exact HB.out | apply below_alloc | apply pw_below_drewN | apply below_drew1) | exact HB.out)⟩⟩
    · replace c11 := Bool.eq_false_iff.mpr c11
      subst c11
      have H1 : (secateurlaw21_GlobMeets.j0 k t239 t240 t241 t242 true) = some r := by rw [if_neg (show ¬ (false = true) by decide)] at H; exact H
      clear H
      have H := H1
      clear H1
      have H' := Aside0.mk H
      clear H
      go_wp2_with (first | ((with_reducible refine gate_callee (f := 9) rfl ?_); refine goesL_ (some 17) rfl rfl Try.func9 (by kernel_rfl) rfl #[] rfl (by (try simp only [List.map_toArray, List.map_cons, List.map_nil]); first | done | rfl | (simp only [List.length_drop, List.length_take]; rfl)) ?_; (with_reducible refine (secateurlaw21_live.calls k  false _ A10.out).mono ?_); rintro e w32 ⟨rfl, hb⟩; refine ⟨_, rfl, ?_⟩; have n0_ := Aside0.mk (below_step (by repeat (first | (with_reducible first | exact HB.out | apply below_alloc | apply pw_below_drewN | apply below_drew1) | exact HB.out)) hb); clear HB; have HB := n0_; clear n0_; (try clear hb); (try clear hb2); (try clear hk); (try clear hi)))
      go_meet
      case rel => exact ⟨_, (true), (by first | rfl | (simp; done) | (simp [*]; done)), H', ⟨by first | omega | exact Nat.le_refl _⟩, ⟨by repeat (first | (with_reducible first | exact HB.out | apply below_alloc | apply pw_below_drewN | apply below_drew1) | exact HB.out)⟩⟩
  case rest =>
    clear HC8
    try clear c1
    try clear c2
    try clear p2
    try clear c7
    try clear c8
    try clear c9
    try clear c11
    try clear c13
    try clear c13b0
    try clear c13b1
    try clear c13b2
    try clear c17
    try clear c17b0
    try clear c17b1
    try clear c17b2
    try clear c21
    try clear c22
    obtain ⟨kq, x43_7, rfl, HA, HJ7, HB⟩ := hcut
    cases kq with
    | zero => exact absurd HA.out (by simp [secateurlaw21_GlobMeets.j0])
    | succ kj7 =>
      have H := HA.out
      clear HA
      simp only [secateurlaw21_GlobMeets.j0] at H
      by_cases c33 : x43_7 = true
      · subst c33
        have H1 : (some false) = some r := by rw [if_pos rfl] at H; exact H
        clear H
        have H := H1
        clear H1
        obtain rfl := Option.some.inj H
        go_wp2
        go_ret
        exact ⟨by first | rfl | (simp [errW_none, errW_some] <;> rfl) | (simp [*, errW_none, errW_some] <;> rfl), by repeat (first | (with_reducible first | exact HB.out | apply below_alloc | apply pw_below_drewN | apply below_drew1) | exact HB.out)⟩
      · replace c33 := Bool.eq_false_iff.mpr c33
        subst c33
        have H1 : (if t242 = true then (some true) else ((glob_Match.f kj7 t239 t241).bind fun t248 => (if t248 = true then ((glob_Match.f kj7 t240 t241).bind fun t249 => (some (!t249))) else (some true)))) = some r := by rw [if_neg (show ¬ (false = true) by decide)] at H; exact H
        clear H
        have H := H1
        clear H1
        by_cases c34 : t242 = true
        · subst c34
          have H1 : (some true) = some r := by rw [if_pos rfl] at H; exact H
          clear H
          have H := H1
          clear H1
          obtain rfl := Option.some.inj H
          go_wp2
          go_ret
          exact ⟨by first | rfl | (simp [errW_none, errW_some] <;> rfl) | (simp [*, errW_none, errW_some] <;> rfl), by repeat (first | (with_reducible first | exact HB.out | apply below_alloc | apply pw_below_drewN | apply below_drew1) | exact HB.out)⟩
        · replace c34 := Bool.eq_false_iff.mpr c34
          subst c34
          have H1 : ((glob_Match.f kj7 t239 t241).bind fun t248 => (if t248 = true then ((glob_Match.f kj7 t240 t241).bind fun t249 => (some (!t249))) else (some true))) = some r := by rw [if_neg (show ¬ (false = true) by decide)] at H; exact H
          clear H
          have H := H1
          clear H1
          replace H := Option.bind_eq_some_iff.mp H
          obtain ⟨t248, A350, H⟩ := H
          replace H : (if t248 = true then ((glob_Match.f kj7 t240 t241).bind fun t249 => (some (!t249))) else (some true)) = some r := H
          have A35 := Aside0.mk A350
          clear A350
          by_cases c36 : t248 = true
          · subst c36
            have H1 : ((glob_Match.f kj7 t240 t241).bind fun t249 => (some (!t249))) = some r := by rw [if_pos rfl] at H; exact H
            clear H
            have H := H1
            clear H1
            replace H := Option.bind_eq_some_iff.mp H
            obtain ⟨t249, A370, H⟩ := H
            replace H : (some (!t249)) = some r := H
            have A37 := Aside0.mk A370
            clear A370
            obtain rfl := Option.some.inj H
            go_wp2_with (first | (go_at_call 14; (with_reducible refine (glob_Match.calls kj7 t239 t241 true _ A35.out).mono ?_); rintro e w' ⟨rfl, ⟨nd, rfl⟩⟩) | (go_at_call 14; (with_reducible refine (glob_Match.calls kj7 t240 t241 t249 _ A37.out).mono ?_); rintro e w' ⟨rfl, ⟨nd, rfl⟩⟩))
            go_ret
            exact ⟨by first | rfl | (simp [errW_none, errW_some] <;> rfl) | (simp [*, errW_none, errW_some] <;> rfl), by repeat (first | (with_reducible first | exact HB.out | apply below_alloc | apply pw_below_drewN | apply below_drew1) | exact HB.out)⟩
          · replace c36 := Bool.eq_false_iff.mpr c36
            subst c36
            have H1 : (some true) = some r := by rw [if_neg (show ¬ (false = true) by decide)] at H; exact H
            clear H
            have H := H1
            clear H1
            obtain rfl := Option.some.inj H
            go_wp2_with (first | (go_at_call 14; (with_reducible refine (glob_Match.calls kj7 t239 t241 false _ A35.out).mono ?_); rintro e w' ⟨rfl, ⟨nd, rfl⟩⟩))
            go_ret
            exact ⟨by first | rfl | (simp [errW_none, errW_some] <;> rfl) | (simp [*, errW_none, errW_some] <;> rfl), by repeat (first | (with_reducible first | exact HB.out | apply below_alloc | apply pw_below_drewN | apply below_drew1) | exact HB.out)⟩

/-- THE ONE PURE STATEMENT of secateurlaw21_GlobMeets: yours. -/
def secateurlaw21_GlobMeets.Pure : Prop := ∀ (a0 : ByteArray) (a1 : ByteArray) (a2 : ByteArray), a0.size ≤ 140737488351232 → a1.size ≤ 140737488351232 → a2.size ≤ 140737488351232 → ∃ k, secateurlaw21_GlobMeets.f k a0 a1 a2 = some true
theorem secateurlaw21_GlobMeets.walk (P : secateurlaw21_GlobMeets.Pure) (a0 : ByteArray) (a1 : ByteArray) (a2 : ByteArray) (w : World) (w0 : a0.size ≤ 140737488351232) (w1 : a1.size ≤ 140737488351232) (w2 : a2.size ≤ 140737488351232) :
    Calls Try.prog 7 #[.string a0, .string a1, .string a2] w fun e w' => e = .returned (.bool true) ∧ Below w.heap.size w w' := by
  obtain ⟨k, h⟩ := P a0 a1 a2 w0 w1 w2
  refine (secateurlaw21_GlobMeets.calls k a0 a1 a2 true w h).mono ?_
  rintro e w' ⟨rfl, hd⟩
  exact ⟨rfl, hd⟩

end Go.Proofs.Ytbdaledkkbkhgaa.PGlob
