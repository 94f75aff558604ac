/- Part of a proof of this seat's statements: plain functions, contracts and rows, written by a program (the kit's printer, some functions given by hand) out of the translation; no conditions of its own. -/
import Derived.Test.YtmamaijiphdggaaDoorPTopx0
namespace Go.Proofs.YtmamaijiphdggaaDoor.PTop
open Go.RowKit Go.Proofs.YtmamaijiphdggaaDoor.Given Go.Proofs.YtmamaijiphdggaaDoorW.PrintWords Go.Proofs.YtmamaijiphdggaaDoorW.PrintLast Go.Proofs.YtmamaijiphdggaaDoorW.PrintMore
attribute [local go_sem] max2_int min2_int max_two min_two max_three min_three max_four min_four   -- for this text's walks alone
set_option linter.unusedVariables false
set_option linter.unusedSimpArgs false

-- NOT PRINTED: function 82 (api_Class_82)

-- NOT PRINTED: function 53 (api_Class_53)

-- NOT PRINTED: function 34 (api_Class_34)

-- NOT PRINTED: function 106 (slices_IndexFunc_string_string)

-- NOT PRINTED: function 80 (slices_ContainsFunc_string_string)

-- NOT PRINTED: function 50 (norm_each_string)

-- NOT PRINTED: function 33 (norm_long)

-- NOT PRINTED: function 83 (word_of)

/-! ### word_Class: function 55 -/
def word_Class.f (a0 : ByteArray) : Option (Bool) := if a0.size ≤ 140737488351232 then some (Go.Proofs.YtmamaijiphdggaaDoor.Given.ofB Go.Proofs.YtmamaijiphdggaaDoor.Given.classB a0) else none
theorem word_Class.calls (a0 : ByteArray) (r : Bool) (w : World) (h : word_Class.f a0 = some r) :
    Calls Tryd.prog 55 #[.string a0] w fun e w' => e = .returned (.bool r) ∧ Drawn0 w w' := by
  unfold word_Class.f at h
  split at h
  · obtain rfl := Option.some.inj h
    exact (Go.Proofs.YtmamaijiphdggaaDoor.Given.Class_calls a0 (by omega) w).mono fun e w' hq => ⟨hq.1, hq.2 ▸ Drawn0.refl w⟩
  · cases h

-- NOT PRINTED: function 107 (api_Field_107)

-- NOT PRINTED: function 86 (api_Field_86)

-- NOT PRINTED: function 56 (api_Field_56)

-- NOT PRINTED: function 85 (word_letter)

/-! ### word_Name: function 61 -/
def word_Name.f (a0 : ByteArray) : Option (Bool) := if a0.size ≤ 140737488351232 then some (a0.data.toList == Go.Proofs.YtmamaijiphdggaaDoor.Given.clinit.data.toList || Go.Proofs.YtmamaijiphdggaaDoor.Given.ofB Go.Proofs.YtmamaijiphdggaaDoor.Given.letterB a0) else none
theorem word_Name.calls (a0 : ByteArray) (r : Bool) (w : World) (h : word_Name.f a0 = some r) :
    Calls Tryd.prog 61 #[.string a0] w fun e w' => e = .returned (.bool r) ∧ Drawn0 w w' := by
  unfold word_Name.f at h
  split at h
  · obtain rfl := Option.some.inj h
    exact (Go.Proofs.YtmamaijiphdggaaDoor.Given.Name_calls a0 (by omega) w).mono fun e w' hq => ⟨hq.1, hq.2 ▸ Drawn0.refl w⟩
  · cases h

-- NOT PRINTED: function 88 (kind_Right)

-- NOT PRINTED: function 57 (norm_field)

-- NOT PRINTED: function 108 (api_Method_108)

-- NOT PRINTED: function 89 (api_Method_89)

-- NOT PRINTED: function 58 (api_Method_58)

-- NOT PRINTED: function 35 (norm_class)

-- NOT PRINTED: function 36 (norm_entry)

-- NOT PRINTED: function 62 (api_Class_62)

-- NOT PRINTED: function 111 (bytealg_abigen_runtime_cmpstring)

-- NOT PRINTED: function 94 (bytealg_CompareString)

-- NOT PRINTED: function 66 (strings_Compare)

-- NOT PRINTED: function 63 (norm_byClass)

-- NOT PRINTED: function 37 (norm_InOrder)

/-! ### norm_Right: function 9 -/
def norm_Right.f (l0_0 : List S37) (l0_1 : List ByteArray) (a0_2 : ByteArray) (a0_3 : ByteArray) (a0_4 : ByteArray) : Option (Int) :=
  if okP l0_0 a0_2 a0_3 = true then some (rightP cmpB l0_0 l0_1 a0_2 a0_3 a0_4) else none
theorem norm_Right.calls (A0_0 : Option Addr) (c0_0 : Nat) (l0_0 : List S37) (A0_1 : Option Addr) (c0_1 : Nat) (l0_1 : List ByteArray) (a0_2 : ByteArray) (a0_3 : ByteArray) (a0_4 : ByteArray) (r : Int) (w : World) (hG : Go.Proofs.YtmamaijiphdggaaDoor.Given.GW w) (hr0_0 : Kd.C k37 w A0_0 l0_0.length l0_0) (hc0_0 : l0_0.length ≤ c0_0) (hr0_1 : Kd.C Kd.string w A0_1 l0_1.length l0_1) (hc0_1 : l0_1.length ≤ c0_1) (h : norm_Right.f l0_0 l0_1 a0_2 a0_3 a0_4 = some r) :
    Calls Tryd.prog 9 #[.agg #[.slice A0_0 l0_0.length c0_0, .slice A0_1 l0_1.length c0_1, .string a0_2, .string a0_3, .string a0_4]] w fun e w' => e = .returned (.int .i64 r) ∧ Below w.heap.size w w' := by
  unfold norm_Right.f at h
  split at h
  · rename_i hs
    obtain rfl := Option.some.inj h
    exact right_given l0_0 A0_0 c0_0 l0_1 A0_1 c0_1 a0_2 a0_3 a0_4 w hG hr0_0 hr0_1 hs
  · cases h

/-! ### op_right: function 38 -/
def op_right.f (a0 : Int) : Option (Bool) := if a0 > 0 then (some (decide (a0 ≤ 32))) else (some false)
set_option maxHeartbeats 8000000 in
set_option maxRecDepth 100000 in
theorem op_right.calls (a0 : Int) (r : Bool) (w : World) (h : op_right.f a0 = some r) :
    Calls Tryd.prog 38 #[.int .i64 a0] w fun e w' => e = .returned (.bool r) ∧ Drawn0 w w' := by
  have H : (if a0 > 0 then (some (decide (a0 ≤ 32))) else (some false)) = some r := h
  clear h
  by_cases c2 : a0 > 0
  · rw [if_pos c2] at H
    have c2b0 : decide (0 < a0) = true := decide_eq_true c2
    clear c2
    obtain rfl := Option.some.inj H
    simp only [Option.some.injEq, Prod.mk.injEq] at H
    obtain ⟨rfl⟩ := H
    go_enter Tryd.func38, Tryd.ntmps38
    go_wp2
    go_ret
    exact ⟨by first | rfl | (simp; done) | (simp [*]; done), by repeat (first | exact Drawn0.refl _ | apply Drawn0.step)⟩
  · rw [if_neg c2] at H
    have c2b0 : decide (0 < a0) = false := decide_eq_false c2
    clear c2
    obtain rfl := Option.some.inj H
    simp only [Option.some.injEq, Prod.mk.injEq] at H
    obtain ⟨rfl⟩ := H
    go_enter Tryd.func38, Tryd.ntmps38
    go_wp2
    go_ret
    exact ⟨by first | rfl | (simp; done) | (simp [*]; done), by repeat (first | exact Drawn0.refl _ | apply Drawn0.step)⟩

/-! ### op_Shape: function 10 -/
def op_Shape.f (a0 : Int) : Option (ByteArray) := some (Go.Proofs.YtmamaijiphdggaaDoor.Given.shapeB a0)
theorem op_Shape.calls (a0 : Int) (r : ByteArray) (w : World) (hG : Go.Proofs.YtmamaijiphdggaaDoor.Given.GW w) (h : op_Shape.f a0 = some r) :
    Calls Tryd.prog 10 #[.int .i64 a0] w fun e w' => e = .returned (.string r) ∧ Drawn0 w w' := by
  obtain rfl := Option.some.inj h
  exact (Go.Proofs.YtmamaijiphdggaaDoor.Given.Shape_calls a0 w hG).mono fun e w' hq => ⟨hq.1, hq.2 ▸ Drawn0.refl w⟩

end Go.Proofs.YtmamaijiphdggaaDoor.PTop
