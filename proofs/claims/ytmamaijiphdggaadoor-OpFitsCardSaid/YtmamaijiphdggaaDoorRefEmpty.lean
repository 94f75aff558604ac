/- The inner function secateurref07.empty. -/
import Derived.Test.YtmamaijiphdggaaDoorCutOps
import Derived.Test.YtmamaijiphdggaaDoorSame
namespace Go.Proofs.YtmamaijiphdggaaDoor.Given
set_option linter.unusedVariables false
set_option linter.unusedSimpArgs false
open Go.RowKit Go.Lib

/-- What holds between the halves of a region: the temporaries are of a form, the world is W. -/
def gOf (t : Array Value) (i : Nat) : Value := (t.toList[i]?).getD undef
def Form (f : Array Value → Prop) (W : World) (a : Act) (w : World) : Prop := f a.tmps ∧ a.defers = [] ∧ w = W
theorem Form.mk' {F : (Nat → Value) → Array Value} {W : World} {a : Act} {w : World} (h : a.tmps = F (gOf a.tmps)) (hd : a.defers = []) (hw : w = W) : Form (fun t => ∃ g : Nat → Value, t = F g) W a w := ⟨⟨_, h⟩, hd, hw⟩

def emptyQ (q97 q98 q99 q107 q116 q114 q67 q70 q77 q118 : Bool) (a b c k : Int) (cl nm ds : ByteArray) (len : Nat) : Bool := (((((((((q97 || (a == 0)) && (q98 || (b == 0))) && (q99 || (c == 0))) && ((q107 || (q116 || q114)) || (k == 0))) && ((q67 || (q70 || q77)) || cl.toList.isEmpty)) && ((q70 || q77) || nm.toList.isEmpty)) && (q77 || ds.toList.isEmpty)) && (q118 || ((len : Int) == 0))))
set_option maxHeartbeats 8000000 in
set_option maxRecDepth 100000 in
theorem empty_walk (o a b c k : Int) (cl nm ds : ByteArray) (A : Option Addr) (len cap : Nat) (s : ByteArray) (w : World) (q97 q98 q99 q107 q116 q114 q67 q70 q77 q118 : Bool) (h97 : ∀ w, Calls Tryd.prog 32 #[.string s, .int .u8 97] w fun e w' => e = .returned (.bool q97) ∧ w = w') (h98 : ∀ w, Calls Tryd.prog 32 #[.string s, .int .u8 98] w fun e w' => e = .returned (.bool q98) ∧ w = w') (h99 : ∀ w, Calls Tryd.prog 32 #[.string s, .int .u8 99] w fun e w' => e = .returned (.bool q99) ∧ w = w') (h107 : ∀ w, Calls Tryd.prog 32 #[.string s, .int .u8 107] w fun e w' => e = .returned (.bool q107) ∧ w = w') (h116 : ∀ w, Calls Tryd.prog 32 #[.string s, .int .u8 116] w fun e w' => e = .returned (.bool q116) ∧ w = w') (h114 : ∀ w, Calls Tryd.prog 32 #[.string s, .int .u8 114] w fun e w' => e = .returned (.bool q114) ∧ w = w') (h67 : ∀ w, Calls Tryd.prog 32 #[.string s, .int .u8 67] w fun e w' => e = .returned (.bool q67) ∧ w = w') (h70 : ∀ w, Calls Tryd.prog 32 #[.string s, .int .u8 70] w fun e w' => e = .returned (.bool q70) ∧ w = w') (h77 : ∀ w, Calls Tryd.prog 32 #[.string s, .int .u8 77] w fun e w' => e = .returned (.bool q77) ∧ w = w') (h118 : ∀ w, Calls Tryd.prog 32 #[.string s, .int .u8 118] w fun e w' => e = .returned (.bool q118) ∧ w = w') :
    Calls Tryd.prog 45 #[insV o a b c k cl nm ds A len cap, .string s] w fun e w' => e = .returned (.bool (emptyQ q97 q98 q99 q107 q116 q114 q67 q70 q77 q118 a b c k cl nm ds len)) ∧ Below w.heap.size w w' := by
  obtain ⟨X, hX⟩ : ∃ X, Hid (emptyQ q97 q98 q99 q107 q116 q114 q67 q70 q77 q118 a b c k cl nm ds len = X) := ⟨_, hid rfl⟩
  rw [hX.out]
  have hI := IBox.new w o a b c k cl nm ds A len cap
  have hB : Below w.heap.size w (w.alloc (.cells #[.int .i64 o, .int .i64 a, .int .i64 b, .int .i64 c, .int .i64 k, .string cl, .string nm, .string ds, .slice A len cap] 44)) := (Below.refl _ _).alloc (Nat.le_refl _) _
  go_enter Tryd.func45, Tryd.ntmps45
  go_upto_region 1 with (fail)
  generalize (w.alloc (.cells #[.int .i64 o, .int .i64 a, .int .i64 b, .int .i64 c, .int .i64 k, .string cl, .string nm, .string ds, .slice A len cap] 44)) = W at hI hB ⊢
  have i1 := hI.c1
  have i2 := hI.c2
  have i3 := hI.c3
  have i4 := hI.c4
  have i5 := hI.c5
  have i6 := hI.c6
  have i7 := hI.c7
  have i8 := hI.c8
  go_upto_region 1 with (fail)
  go_cut [5] (fun v5 wc => v5 = .bool (q67 || (q70 || q77)) ∧ W = wc)
  case first =>
    cases q67 <;> cases q70 <;> cases q77
    all_goals
      go_wp2_with (first | (go_at_call 32; with_reducible refine (h67 _).mono ?_; rintro e w' ⟨rfl, rfl⟩) | (go_at_call 32; with_reducible refine (h70 _).mono ?_; rintro e w' ⟨rfl, rfl⟩) | (go_at_call 32; with_reducible refine (h77 _).mono ?_; rintro e w' ⟨rfl, rfl⟩))
      go_meet
      case rel => exact ⟨rfl, rfl⟩
  case rest =>
  obtain ⟨rfl, rfl⟩ := hcut
  generalize hx5 : (q67 || (q70 || q77)) = x5
  replace hx5 := hid hx5
  go_upto_region 2 with (fail)
  go_cut [6] (fun v6 wc => v6 = .bool (q70 || q77) ∧ W = wc)
  case first =>
    cases q70 <;> cases q77
    all_goals
      go_wp2_with (first | (go_at_call 32; with_reducible refine (h70 _).mono ?_; rintro e w' ⟨rfl, rfl⟩) | (go_at_call 32; with_reducible refine (h77 _).mono ?_; rintro e w' ⟨rfl, rfl⟩))
      go_meet
      case rel => exact ⟨rfl, rfl⟩
  case rest =>
  obtain ⟨rfl, rfl⟩ := hcut
  generalize hx6 : (q70 || q77) = x6
  replace hx6 := hid hx6
  go_upto_region 3 with (fail)
  go_cut [7] (fun v7 wc => v7 = .bool (q107 || (q116 || q114)) ∧ W = wc)
  case first =>
    cases q107 <;> cases q116 <;> cases q114
    all_goals
      go_wp2_with (first | (go_at_call 32; with_reducible refine (h107 _).mono ?_; rintro e w' ⟨rfl, rfl⟩) | (go_at_call 32; with_reducible refine (h116 _).mono ?_; rintro e w' ⟨rfl, rfl⟩) | (go_at_call 32; with_reducible refine (h114 _).mono ?_; rintro e w' ⟨rfl, rfl⟩))
      go_meet
      case rel => exact ⟨rfl, rfl⟩
  case rest =>
  obtain ⟨rfl, rfl⟩ := hcut
  generalize hx7 : (q107 || (q116 || q114)) = x7
  replace hx7 := hid hx7

  go_upto_region 4 with (fail)
  refine wp_region_lit ?_
  simp only [List.append_eq, List.cons_append, List.nil_append, List.append_assoc]
  obtain ⟨R0, hR0⟩ : ∃ R : Act → World → Prop, Hid (R = Form (fun t => ∃ g41 : Nat → Value, t = #[insV o a b c k cl nm ds A len cap, .string s, .pointer (some ⟨w.heap.size, 0, none⟩), undef, .bool false, .bool x5, .bool x6, .bool x7, g41 8, g41 9, g41 10, g41 11, g41 12, g41 13, g41 14, g41 15, g41 16, g41 17, g41 18, g41 19, g41 20, g41 21, g41 22, g41 23, g41 24, g41 25, g41 26, g41 27, g41 28, g41 29, g41 30, g41 31, g41 32, g41 33, g41 34, g41 35, g41 36, g41 37, g41 38, g41 39, g41 40, .bool ((q97 || (a == 0))), g41 42, g41 43, g41 44, g41 45, g41 46, g41 47, g41 48, g41 49, g41 50, g41 51, g41 52, g41 53, g41 54, g41 55, g41 56, g41 57, g41 58, g41 59, g41 60, g41 61, g41 62, g41 63, g41 64, g41 65, g41 66, g41 67, g41 68, g41 69, g41 70, g41 71, g41 72, g41 73, g41 74, g41 75, g41 76, g41 77, g41 78, g41 79, g41 80, g41 81, g41 82, g41 83, g41 84, g41 85, g41 86, g41 87, g41 88, g41 89, g41 90, g41 91, g41 92, g41 93, g41 94, g41 95, g41 96, g41 97, g41 98, g41 99, g41 100, g41 101]) W) := ⟨_, hid rfl⟩
  refine wpList_meet R0 8 ?_ ?_
  rotate_left
  simp only [List.take_succ_cons, List.take_zero]
  · cases q97
    all_goals
      go_wp2_with (first | (go_at_call 32; with_reducible refine (h97 _).mono ?_; rintro e w' ⟨rfl, rfl⟩))
      rw [hR0.out]
      exact Form.mk' rfl rfl rfl
  rintro ⟨tm, df⟩ w1 h
  rw [hR0.out] at h
  clear hR0
  obtain ⟨⟨g41, h1⟩, h2, h3⟩ := h
  simp only at h1 h2
  replace h3 := h3.symm
  subst h1 h2 h3
  generalize hb41 : ((q97 || (a == 0))) = b41
  replace hb41 := hid hb41
  simp only [List.drop_succ_cons, List.drop_zero]
  obtain ⟨R1, hR1⟩ : ∃ R : Act → World → Prop, Hid (R = Form (fun t => ∃ g50 : Nat → Value, t = #[insV o a b c k cl nm ds A len cap, .string s, .pointer (some ⟨w.heap.size, 0, none⟩), undef, .bool false, .bool x5, .bool x6, .bool x7, g50 8, g50 9, g50 10, g50 11, g50 12, g50 13, g50 14, g50 15, g50 16, g50 17, g50 18, g50 19, g50 20, g50 21, g50 22, g50 23, g50 24, g50 25, g50 26, g50 27, g50 28, g50 29, g50 30, g50 31, g50 32, g50 33, g50 34, g50 35, g50 36, g50 37, g50 38, g50 39, g50 40, g50 41, g50 42, g50 43, g50 44, g50 45, g50 46, g50 47, g50 48, g50 49, .bool (b41 && (q98 || (b == 0))), g50 51, g50 52, g50 53, g50 54, g50 55, g50 56, g50 57, g50 58, g50 59, g50 60, g50 61, g50 62, g50 63, g50 64, g50 65, g50 66, g50 67, g50 68, g50 69, g50 70, g50 71, g50 72, g50 73, g50 74, g50 75, g50 76, g50 77, g50 78, g50 79, g50 80, g50 81, g50 82, g50 83, g50 84, g50 85, g50 86, g50 87, g50 88, g50 89, g50 90, g50 91, g50 92, g50 93, g50 94, g50 95, g50 96, g50 97, g50 98, g50 99, g50 100, g50 101]) W) := ⟨_, hid rfl⟩
  refine wpList_meet R1 9 ?_ ?_
  rotate_left
  simp only [List.take_succ_cons, List.take_zero]
  · cases b41 <;> cases q98
    all_goals
      go_wp2_with (first | (go_at_call 32; with_reducible refine (h98 _).mono ?_; rintro e w' ⟨rfl, rfl⟩))
      rw [hR1.out]
      exact Form.mk' rfl rfl rfl
  rintro ⟨tm, df⟩ w1 h
  rw [hR1.out] at h
  clear hR1
  obtain ⟨⟨g50, h1⟩, h2, h3⟩ := h
  simp only at h1 h2
  replace h3 := h3.symm
  subst h1 h2 h3
  generalize hb50 : (b41 && (q98 || (b == 0))) = b50
  replace hb50 := hid hb50
  simp only [List.drop_succ_cons, List.drop_zero]
  obtain ⟨R2, hR2⟩ : ∃ R : Act → World → Prop, Hid (R = Form (fun t => ∃ g59 : Nat → Value, t = #[insV o a b c k cl nm ds A len cap, .string s, .pointer (some ⟨w.heap.size, 0, none⟩), undef, .bool false, .bool x5, .bool x6, .bool x7, g59 8, g59 9, g59 10, g59 11, g59 12, g59 13, g59 14, g59 15, g59 16, g59 17, g59 18, g59 19, g59 20, g59 21, g59 22, g59 23, g59 24, g59 25, g59 26, g59 27, g59 28, g59 29, g59 30, g59 31, g59 32, g59 33, g59 34, g59 35, g59 36, g59 37, g59 38, g59 39, g59 40, g59 41, g59 42, g59 43, g59 44, g59 45, g59 46, g59 47, g59 48, g59 49, g59 50, g59 51, g59 52, g59 53, g59 54, g59 55, g59 56, g59 57, g59 58, .bool (b50 && (q99 || (c == 0))), g59 60, g59 61, g59 62, g59 63, g59 64, g59 65, g59 66, g59 67, g59 68, g59 69, g59 70, g59 71, g59 72, g59 73, g59 74, g59 75, g59 76, g59 77, g59 78, g59 79, g59 80, g59 81, g59 82, g59 83, g59 84, g59 85, g59 86, g59 87, g59 88, g59 89, g59 90, g59 91, g59 92, g59 93, g59 94, g59 95, g59 96, g59 97, g59 98, g59 99, g59 100, g59 101]) W) := ⟨_, hid rfl⟩
  refine wpList_meet R2 9 ?_ ?_
  rotate_left
  simp only [List.take_succ_cons, List.take_zero]
  · cases b50 <;> cases q99
    all_goals
      go_wp2_with (first | (go_at_call 32; with_reducible refine (h99 _).mono ?_; rintro e w' ⟨rfl, rfl⟩))
      rw [hR2.out]
      exact Form.mk' rfl rfl rfl
  rintro ⟨tm, df⟩ w1 h
  rw [hR2.out] at h
  clear hR2
  obtain ⟨⟨g59, h1⟩, h2, h3⟩ := h
  simp only at h1 h2
  replace h3 := h3.symm
  subst h1 h2 h3
  generalize hb59 : (b50 && (q99 || (c == 0))) = b59
  replace hb59 := hid hb59
  simp only [List.drop_succ_cons, List.drop_zero]
  obtain ⟨R3, hR3⟩ : ∃ R : Act → World → Prop, Hid (R = Form (fun t => ∃ g67 : Nat → Value, t = #[insV o a b c k cl nm ds A len cap, .string s, .pointer (some ⟨w.heap.size, 0, none⟩), undef, .bool false, .bool x5, .bool x6, .bool x7, g67 8, g67 9, g67 10, g67 11, g67 12, g67 13, g67 14, g67 15, g67 16, g67 17, g67 18, g67 19, g67 20, g67 21, g67 22, g67 23, g67 24, g67 25, g67 26, g67 27, g67 28, g67 29, g67 30, g67 31, g67 32, g67 33, g67 34, g67 35, g67 36, g67 37, g67 38, g67 39, g67 40, g67 41, g67 42, g67 43, g67 44, g67 45, g67 46, g67 47, g67 48, g67 49, g67 50, g67 51, g67 52, g67 53, g67 54, g67 55, g67 56, g67 57, g67 58, g67 59, g67 60, g67 61, g67 62, g67 63, g67 64, g67 65, g67 66, .bool (b59 && (x7 || (k == 0))), g67 68, g67 69, g67 70, g67 71, g67 72, g67 73, g67 74, g67 75, g67 76, g67 77, g67 78, g67 79, g67 80, g67 81, g67 82, g67 83, g67 84, g67 85, g67 86, g67 87, g67 88, g67 89, g67 90, g67 91, g67 92, g67 93, g67 94, g67 95, g67 96, g67 97, g67 98, g67 99, g67 100, g67 101]) W) := ⟨_, hid rfl⟩
  refine wpList_meet R3 8 ?_ ?_
  rotate_left
  simp only [List.take_succ_cons, List.take_zero]
  · cases b59 <;> cases x7
    all_goals
      go_wp2_with (fail)
      rw [hR3.out]
      exact Form.mk' rfl rfl rfl
  rintro ⟨tm, df⟩ w1 h
  rw [hR3.out] at h
  clear hR3
  obtain ⟨⟨g67, h1⟩, h2, h3⟩ := h
  simp only at h1 h2
  replace h3 := h3.symm
  subst h1 h2 h3
  generalize hb67 : (b59 && (x7 || (k == 0))) = b67
  replace hb67 := hid hb67
  simp only [List.drop_succ_cons, List.drop_zero]
  obtain ⟨R4, hR4⟩ : ∃ R : Act → World → Prop, Hid (R = Form (fun t => ∃ g75 : Nat → Value, t = #[insV o a b c k cl nm ds A len cap, .string s, .pointer (some ⟨w.heap.size, 0, none⟩), undef, .bool false, .bool x5, .bool x6, .bool x7, g75 8, g75 9, g75 10, g75 11, g75 12, g75 13, g75 14, g75 15, g75 16, g75 17, g75 18, g75 19, g75 20, g75 21, g75 22, g75 23, g75 24, g75 25, g75 26, g75 27, g75 28, g75 29, g75 30, g75 31, g75 32, g75 33, g75 34, g75 35, g75 36, g75 37, g75 38, g75 39, g75 40, g75 41, g75 42, g75 43, g75 44, g75 45, g75 46, g75 47, g75 48, g75 49, g75 50, g75 51, g75 52, g75 53, g75 54, g75 55, g75 56, g75 57, g75 58, g75 59, g75 60, g75 61, g75 62, g75 63, g75 64, g75 65, g75 66, g75 67, g75 68, g75 69, g75 70, g75 71, g75 72, g75 73, g75 74, .bool (b67 && (x5 || cl.toList.isEmpty)), g75 76, g75 77, g75 78, g75 79, g75 80, g75 81, g75 82, g75 83, g75 84, g75 85, g75 86, g75 87, g75 88, g75 89, g75 90, g75 91, g75 92, g75 93, g75 94, g75 95, g75 96, g75 97, g75 98, g75 99, g75 100, g75 101]) W) := ⟨_, hid rfl⟩
  refine wpList_meet R4 8 ?_ ?_
  rotate_left
  simp only [List.take_succ_cons, List.take_zero]
  · cases b67 <;> cases x5
    all_goals
      go_wp2_with (fail)
      rw [hR4.out]
      exact Form.mk' rfl rfl rfl
  rintro ⟨tm, df⟩ w1 h
  rw [hR4.out] at h
  clear hR4
  obtain ⟨⟨g75, h1⟩, h2, h3⟩ := h
  simp only at h1 h2
  replace h3 := h3.symm
  subst h1 h2 h3
  generalize hb75 : (b67 && (x5 || cl.toList.isEmpty)) = b75
  replace hb75 := hid hb75
  simp only [List.drop_succ_cons, List.drop_zero]
  obtain ⟨R5, hR5⟩ : ∃ R : Act → World → Prop, Hid (R = Form (fun t => ∃ g83 : Nat → Value, t = #[insV o a b c k cl nm ds A len cap, .string s, .pointer (some ⟨w.heap.size, 0, none⟩), undef, .bool false, .bool x5, .bool x6, .bool x7, g83 8, g83 9, g83 10, g83 11, g83 12, g83 13, g83 14, g83 15, g83 16, g83 17, g83 18, g83 19, g83 20, g83 21, g83 22, g83 23, g83 24, g83 25, g83 26, g83 27, g83 28, g83 29, g83 30, g83 31, g83 32, g83 33, g83 34, g83 35, g83 36, g83 37, g83 38, g83 39, g83 40, g83 41, g83 42, g83 43, g83 44, g83 45, g83 46, g83 47, g83 48, g83 49, g83 50, g83 51, g83 52, g83 53, g83 54, g83 55, g83 56, g83 57, g83 58, g83 59, g83 60, g83 61, g83 62, g83 63, g83 64, g83 65, g83 66, g83 67, g83 68, g83 69, g83 70, g83 71, g83 72, g83 73, g83 74, g83 75, g83 76, g83 77, g83 78, g83 79, g83 80, g83 81, g83 82, .bool (b75 && (x6 || nm.toList.isEmpty)), g83 84, g83 85, g83 86, g83 87, g83 88, g83 89, g83 90, g83 91, g83 92, g83 93, g83 94, g83 95, g83 96, g83 97, g83 98, g83 99, g83 100, g83 101]) W) := ⟨_, hid rfl⟩
  refine wpList_meet R5 8 ?_ ?_
  rotate_left
  simp only [List.take_succ_cons, List.take_zero]
  · cases b75 <;> cases x6
    all_goals
      go_wp2_with (fail)
      rw [hR5.out]
      exact Form.mk' rfl rfl rfl
  rintro ⟨tm, df⟩ w1 h
  rw [hR5.out] at h
  clear hR5
  obtain ⟨⟨g83, h1⟩, h2, h3⟩ := h
  simp only at h1 h2
  replace h3 := h3.symm
  subst h1 h2 h3
  generalize hb83 : (b75 && (x6 || nm.toList.isEmpty)) = b83
  replace hb83 := hid hb83
  simp only [List.drop_succ_cons, List.drop_zero]
  obtain ⟨R6, hR6⟩ : ∃ R : Act → World → Prop, Hid (R = Form (fun t => ∃ g92 : Nat → Value, t = #[insV o a b c k cl nm ds A len cap, .string s, .pointer (some ⟨w.heap.size, 0, none⟩), undef, .bool false, .bool x5, .bool x6, .bool x7, g92 8, g92 9, g92 10, g92 11, g92 12, g92 13, g92 14, g92 15, g92 16, g92 17, g92 18, g92 19, g92 20, g92 21, g92 22, g92 23, g92 24, g92 25, g92 26, g92 27, g92 28, g92 29, g92 30, g92 31, g92 32, g92 33, g92 34, g92 35, g92 36, g92 37, g92 38, g92 39, g92 40, g92 41, g92 42, g92 43, g92 44, g92 45, g92 46, g92 47, g92 48, g92 49, g92 50, g92 51, g92 52, g92 53, g92 54, g92 55, g92 56, g92 57, g92 58, g92 59, g92 60, g92 61, g92 62, g92 63, g92 64, g92 65, g92 66, g92 67, g92 68, g92 69, g92 70, g92 71, g92 72, g92 73, g92 74, g92 75, g92 76, g92 77, g92 78, g92 79, g92 80, g92 81, g92 82, g92 83, g92 84, g92 85, g92 86, g92 87, g92 88, g92 89, g92 90, g92 91, .bool (b83 && (q77 || ds.toList.isEmpty)), g92 93, g92 94, g92 95, g92 96, g92 97, g92 98, g92 99, g92 100, g92 101]) W) := ⟨_, hid rfl⟩
  refine wpList_meet R6 9 ?_ ?_
  rotate_left
  simp only [List.take_succ_cons, List.take_zero]
  · cases b83 <;> cases q77
    all_goals
      go_wp2_with (first | (go_at_call 32; with_reducible refine (h77 _).mono ?_; rintro e w' ⟨rfl, rfl⟩))
      rw [hR6.out]
      exact Form.mk' rfl rfl rfl
  rintro ⟨tm, df⟩ w1 h
  rw [hR6.out] at h
  clear hR6
  obtain ⟨⟨g92, h1⟩, h2, h3⟩ := h
  simp only at h1 h2
  replace h3 := h3.symm
  subst h1 h2 h3
  generalize hb92 : (b83 && (q77 || ds.toList.isEmpty)) = b92
  replace hb92 := hid hb92
  simp only [List.drop_succ_cons, List.drop_zero]
  have hq : Hid ((b92 && (q118 || ((len : Int) == 0))) = X) := hid (by rw [← hX.out, ← hb92.out, ← hb83.out, ← hb75.out, ← hb67.out, ← hb59.out, ← hb50.out, ← hb41.out, ← hx5.out, ← hx6.out, ← hx7.out]; rfl)
  clear hX hb92 hb83 hb75 hb67 hb59 hb50 hb41 hx5 hx6 hx7
  cases b92 <;> cases q118
  all_goals
    go_wp2_with (first | (go_at_call 32; with_reducible refine (h118 _).mono ?_; rintro e w' ⟨rfl, rfl⟩))
    go_ret
    exact ⟨ret_bool hq.out, hB⟩
def emptyC (s : ByteArray) (a b c k : Int) (cl nm ds : ByteArray) (len : Nat) : Bool := emptyQ (hasC s 97) (hasC s 98) (hasC s 99) (hasC s 107) (hasC s 116) (hasC s 114) (hasC s 67) (hasC s 70) (hasC s 77) (hasC s 118) a b c k cl nm ds len
/-- secateurref07.empty, whatever the instruction. -/
theorem empty_calls (o a b c k : Int) (cl nm ds : ByteArray) (A : Option Addr) (len cap : Nat) (s : ByteArray) (hs : s.size ≤ 9223372036854775806) (w : World) :
    Calls Tryd.prog 45 #[insV o a b c k cl nm ds A len cap, .string s] w fun e w' => e = .returned (.bool (emptyC s a b c k cl nm ds len)) ∧ Below w.heap.size w w' :=
  empty_walk o a b c k cl nm ds A len cap s w _ _ _ _ _ _ _ _ _ _ (Has_calls s hs 97) (Has_calls s hs 98) (Has_calls s hs 99) (Has_calls s hs 107) (Has_calls s hs 116) (Has_calls s hs 114) (Has_calls s hs 67) (Has_calls s hs 70) (Has_calls s hs 77) (Has_calls s hs 118)
end Go.Proofs.YtmamaijiphdggaaDoor.Given
