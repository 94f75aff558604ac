/- Part of a proof of this seat's statements: plain functions, contracts and rows, written by a program (the kit's printer, some functions given by hand) out of the translation; no conditions of its own. -/
import Derived.Test.YtmamaijiphdggaaDoorPTopx0
import Derived.Test.YtmamaijiphdggaaDoorPTopx1
import Derived.Test.YtmamaijiphdggaaDoorPTopx2
import Derived.Test.YtmamaijiphdggaaDoorPTopx3
import Derived.Test.YtmamaijiphdggaaDoorPTopx4
namespace Go.Proofs.YtmamaijiphdggaaDoor.PTop
open Go.RowKit Go.Proofs.YtmamaijiphdggaaDoor.Given Go.Proofs.YtmamaijiphdggaaDoorW.PrintWords Go.Proofs.YtmamaijiphdggaaDoorW.PrintLast Go.Proofs.YtmamaijiphdggaaDoorW.PrintMore
attribute [local go_sem] max2_int min2_int max_two min_two max_three min_three max_four min_four   -- for this text's walks alone
set_option linter.unusedVariables false
set_option linter.unusedSimpArgs false

/-! ### secateurtop_TopCodes: function 3 -/
mutual
def secateurtop_TopCodes.j0 : Nat → Bool → List (S37) → List ByteArray → ByteArray → ByteArray → ByteArray → Option (Bool)
  | 0, _, _, _, _, _, _ => none
  | k + 1, x3, x149000, x149001, x149002, x149003, x149004 => (secateurlaw08_Great.f k x149000 x149001 x149002 x149003 x149004).bind fun t151 => (if t151 = true then (secateurtop_TopCodes.j1 k x3 true x149000 x149001 x149002 x149003 x149004) else ((norm_Right.f x149000 x149001 x149002 x149003 x149004).bind fun t152 => (secateurtop_TopCodes.j1 k x3 (t152 != 0) x149000 x149001 x149002 x149003 x149004)))
def secateurtop_TopCodes.j1 : Nat → Bool → Bool → List (S37) → List ByteArray → ByteArray → ByteArray → ByteArray → Option (Bool)
  | 0, _, _, _, _, _, _, _ => none
  | k + 1, x3, x26, x149000, x149001, x149002, x149003, x149004 => if x26 = true then (some x3) else ((norm_Strings.f x149000 x149001 x149002 x149003 x149004).bind fun t153 => (secateurtop_TopCodes.l0 k x3 t153 0 x149000 x149001 x149002 x149003 x149004))
def secateurtop_TopCodes.l0 : Nat → Bool → List ByteArray → Int → List (S37) → List ByteArray → ByteArray → ByteArray → ByteArray → Option (Bool)
  | 0, _, _, _, _, _, _, _, _ => none
  | k + 1, x3, x4, x5, x149000, x149001, x149002, x149003, x149004 => if x5 < (x149000.length : Int) then (secateurtop_TopCodes.l1 k x3 x4 x5 0 x149000 x149001 x149002 x149003 x149004) else (some x3)
def secateurtop_TopCodes.l1 : Nat → Bool → List ByteArray → Int → Int → List (S37) → List ByteArray → ByteArray → ByteArray → ByteArray → Option (Bool)
  | 0, _, _, _, _, _, _, _, _, _ => none
  | k + 1, x3, x4, x5, x6, x149000, x149001, x149002, x149003, x149004 => if 0 ≤ x5 then (if x5 < (x149000.length : Int) then (if x6 < (((rd_T37 x149000 x5).f6).length : Int) then (if 0 ≤ x6 then (secateurtop_TopCodes.l2 k x3 x4 x5 x6 0 x149000 x149001 x149002 x149003 x149004 ((rd_T40 ((rd_T37 x149000 x5).f6) x6).f0) ((rd_T40 ((rd_T37 x149000 x5).f6) x6).f1) ((rd_T40 ((rd_T37 x149000 x5).f6) x6).f2) ((rd_T40 ((rd_T37 x149000 x5).f6) x6).f3) ((rd_T40 ((rd_T37 x149000 x5).f6) x6).f4) ((rd_T40 ((rd_T37 x149000 x5).f6) x6).f5)) else (none)) else (secateurtop_TopCodes.l0 k x3 x4 (wrap64 (x5 + 1)) x149000 x149001 x149002 x149003 x149004)) else (none)) else (none)
def secateurtop_TopCodes.l2 : Nat → Bool → List ByteArray → Int → Int → Int → List (S37) → List ByteArray → ByteArray → ByteArray → ByteArray → ByteArray → ByteArray → Bool → Bool → Int → List (S44) → Option (Bool)
  | 0, _, _, _, _, _, _, _, _, _, _, _, _, _, _, _, _ => none
  | k + 1, x3, x4, x5, x6, x8, x149000, x149001, x149002, x149003, x149004, x160000, x160001, x160002, x160003, x160004, x160005 => if x8 < (x160005.length : Int) then (if 0 ≤ x8 then ((op_Uses.f k ((rd_T44 x160005 x8).f0) ((rd_T44 x160005 x8).f1) ((rd_T44 x160005 x8).f2) ((rd_T44 x160005 x8).f3) ((rd_T44 x160005 x8).f4) ((rd_T44 x160005 x8).f5) ((rd_T44 x160005 x8).f6) ((rd_T44 x160005 x8).f7) ((rd_T44 x160005 x8).f8)).bind fun t161 => (secateurtop_TopCodes.l3 k x3 x4 x5 x6 x8 t161 0 x149000 x149001 x149002 x149003 x149004 x160000 x160001 x160002 x160003 x160004 x160005)) else (none)) else (secateurtop_TopCodes.l1 k x3 x4 x5 (wrap64 (x6 + 1)) x149000 x149001 x149002 x149003 x149004)
def secateurtop_TopCodes.l3 : Nat → Bool → List ByteArray → Int → Int → Int → List Int → Int → List (S37) → List ByteArray → ByteArray → ByteArray → ByteArray → ByteArray → ByteArray → Bool → Bool → Int → List (S44) → Option (Bool)
  | 0, _, _, _, _, _, _, _, _, _, _, _, _, _, _, _, _, _, _ => none
  | k + 1, x3, x4, x5, x6, x8, x9, x10, x149000, x149001, x149002, x149003, x149004, x160000, x160001, x160002, x160003, x160004, x160005 => if x10 < (x9.length : Int) then (if 0 ≤ x10 then (if (rd x9 x10) < 0 then (some false) else (if (rd x9 x10) ≥ x160004 then (some false) else (secateurtop_TopCodes.l3 k x3 x4 x5 x6 x8 x9 (wrap64 (x10 + 1)) x149000 x149001 x149002 x149003 x149004 x160000 x160001 x160002 x160003 x160004 x160005))) else (none)) else (if 0 ≤ x8 then (if x8 < (x160005.length : Int) then ((op_Sets.f k ((rd_T44 x160005 x8).f0) ((rd_T44 x160005 x8).f1) ((rd_T44 x160005 x8).f2) ((rd_T44 x160005 x8).f3) ((rd_T44 x160005 x8).f4) ((rd_T44 x160005 x8).f5) ((rd_T44 x160005 x8).f6) ((rd_T44 x160005 x8).f7) ((rd_T44 x160005 x8).f8)).bind fun bt167 => (if bt167.2 = true then (if bt167.1 < 0 then (secateurtop_TopCodes.j6 k x3 x4 x5 x6 x8 true x149000 x149001 x149002 x149003 x149004 x160000 x160001 x160002 x160003 x160004 x160005) else (secateurtop_TopCodes.j6 k x3 x4 x5 x6 x8 (decide (bt167.1 ≥ x160004)) x149000 x149001 x149002 x149003 x149004 x160000 x160001 x160002 x160003 x160004 x160005)) else (secateurtop_TopCodes.j6 k x3 x4 x5 x6 x8 false x149000 x149001 x149002 x149003 x149004 x160000 x160001 x160002 x160003 x160004 x160005))) else (none)) else (none))
def secateurtop_TopCodes.j6 : Nat → Bool → List ByteArray → Int → Int → Int → Bool → List (S37) → List ByteArray → ByteArray → ByteArray → ByteArray → ByteArray → ByteArray → Bool → Bool → Int → List (S44) → Option (Bool)
  | 0, _, _, _, _, _, _, _, _, _, _, _, _, _, _, _, _, _ => none
  | k + 1, x3, x4, x5, x6, x8, x109, x149000, x149001, x149002, x149003, x149004, x160000, x160001, x160002, x160003, x160004, x160005 => if x109 = true then (some false) else (if 0 ≤ x8 then (if x8 < (x160005.length : Int) then ((secateurtop_in.f k x4 ((rd_T44 x160005 x8).f5)).bind fun t170 => (if t170 = true then ((secateurtop_in.f k x4 ((rd_T44 x160005 x8).f6)).bind fun t172 => (if t172 = true then ((secateurtop_in.f k x4 ((rd_T44 x160005 x8).f7)).bind fun t174 => (if t174 = true then (secateurtop_TopCodes.l2 k x3 x4 x5 x6 (wrap64 (x8 + 1)) x149000 x149001 x149002 x149003 x149004 x160000 x160001 x160002 x160003 x160004 x160005) else (some false))) else (some false))) else (some false))) else (none)) else (none))
end
def secateurtop_TopCodes.g (k : Nat) (l0_0 : List (S37)) (l0_1 : List ByteArray) (a0_2 : ByteArray) (a0_3 : ByteArray) (a0_4 : ByteArray) : Option (Bool) := (norm_Right.f ([] : List (S37)) ([] : List ByteArray) (⟨#[]⟩ : ByteArray) (⟨#[]⟩ : ByteArray) (⟨#[]⟩ : ByteArray)).bind fun t149 => (if t149 = 0 then ((op_Shape.f 15).bind fun t150 => (secateurtop_TopCodes.j0 k (t150.toList == ([97, 98, 70] : List UInt8)) l0_0 l0_1 a0_2 a0_3 a0_4)) else (secateurtop_TopCodes.j0 k false l0_0 l0_1 a0_2 a0_3 a0_4))
theorem secateurtop_TopCodes.mono_l : ∀ k, (∀ y0 y1 y2 y3 y4 y5, LeO (secateurtop_TopCodes.j0 k y0 y1 y2 y3 y4 y5) (secateurtop_TopCodes.j0 (k + 1) y0 y1 y2 y3 y4 y5)) ∧ (∀ y0 y1 y2 y3 y4 y5 y6, LeO (secateurtop_TopCodes.j1 k y0 y1 y2 y3 y4 y5 y6) (secateurtop_TopCodes.j1 (k + 1) y0 y1 y2 y3 y4 y5 y6)) ∧ (∀ y0 y1 y2 y3 y4 y5 y6 y7, LeO (secateurtop_TopCodes.l0 k y0 y1 y2 y3 y4 y5 y6 y7) (secateurtop_TopCodes.l0 (k + 1) y0 y1 y2 y3 y4 y5 y6 y7)) ∧ (∀ y0 y1 y2 y3 y4 y5 y6 y7 y8, LeO (secateurtop_TopCodes.l1 k y0 y1 y2 y3 y4 y5 y6 y7 y8) (secateurtop_TopCodes.l1 (k + 1) y0 y1 y2 y3 y4 y5 y6 y7 y8)) ∧ (∀ y0 y1 y2 y3 y4 y5 y6 y7 y8 y9 y10 y11 y12 y13 y14 y15, LeO (secateurtop_TopCodes.l2 k y0 y1 y2 y3 y4 y5 y6 y7 y8 y9 y10 y11 y12 y13 y14 y15) (secateurtop_TopCodes.l2 (k + 1) y0 y1 y2 y3 y4 y5 y6 y7 y8 y9 y10 y11 y12 y13 y14 y15)) ∧ (∀ y0 y1 y2 y3 y4 y5 y6 y7 y8 y9 y10 y11 y12 y13 y14 y15 y16 y17, LeO (secateurtop_TopCodes.l3 k y0 y1 y2 y3 y4 y5 y6 y7 y8 y9 y10 y11 y12 y13 y14 y15 y16 y17) (secateurtop_TopCodes.l3 (k + 1) y0 y1 y2 y3 y4 y5 y6 y7 y8 y9 y10 y11 y12 y13 y14 y15 y16 y17)) ∧ (∀ y0 y1 y2 y3 y4 y5 y6 y7 y8 y9 y10 y11 y12 y13 y14 y15 y16, LeO (secateurtop_TopCodes.j6 k y0 y1 y2 y3 y4 y5 y6 y7 y8 y9 y10 y11 y12 y13 y14 y15 y16) (secateurtop_TopCodes.j6 (k + 1) y0 y1 y2 y3 y4 y5 y6 y7 y8 y9 y10 y11 y12 y13 y14 y15 y16))
  | 0 => ⟨fun _ _ _ _ _ _ r h => by simp [secateurtop_TopCodes.j0] at h, fun _ _ _ _ _ _ _ r h => by simp [secateurtop_TopCodes.j1] at h, fun _ _ _ _ _ _ _ _ r h => by simp [secateurtop_TopCodes.l0] at h, fun _ _ _ _ _ _ _ _ _ r h => by simp [secateurtop_TopCodes.l1] at h, fun _ _ _ _ _ _ _ _ _ _ _ _ _ _ _ _ r h => by simp [secateurtop_TopCodes.l2] at h, fun _ _ _ _ _ _ _ _ _ _ _ _ _ _ _ _ _ _ r h => by simp [secateurtop_TopCodes.l3] at h, fun _ _ _ _ _ _ _ _ _ _ _ _ _ _ _ _ _ r h => by simp [secateurtop_TopCodes.j6] at h⟩
  | k + 1 => by
    obtain ⟨ih0, ih1, ih2, ih3, ih4, ih5, ih6⟩ := secateurtop_TopCodes.mono_l k
    refine ⟨?_, ?_, ?_, ?_, ?_, ?_, ?_⟩
    · intro y0 y1 y2 y3 y4 y5
      unfold secateurtop_TopCodes.j0
      repeat' first
      | (with_reducible exact ih0 _ _ _ _ _ _)
      | (with_reducible exact ih1 _ _ _ _ _ _ _)
      | (with_reducible exact ih2 _ _ _ _ _ _ _ _)
      | (with_reducible exact ih3 _ _ _ _ _ _ _ _ _)
      | (with_reducible exact ih4 _ _ _ _ _ _ _ _ _ _ _ _ _ _ _ _)
      | (with_reducible exact ih5 _ _ _ _ _ _ _ _ _ _ _ _ _ _ _ _ _ _)
      | (with_reducible exact ih6 _ _ _ _ _ _ _ _ _ _ _ _ _ _ _ _ _)
      | (with_reducible exact op_Sets.mono _ _ _ _ _ _ _ _ _ _)
      | (with_reducible exact op_Uses.mono _ _ _ _ _ _ _ _ _ _)
      | (with_reducible exact secateurlaw08_Great.mono _ _ _ _ _ _)
      | (with_reducible exact secateurtop_in.mono _ _ _)
      | (with_reducible exact LeO.refl _)
      | (with_reducible exact LeO.none _)
      | (with_reducible refine LeO.ite ?_ ?_)
      | (with_reducible refine LeO.bind ?_ (fun _ => ?_))
      | exact ih0 _ _ _ _ _ _
      | exact ih1 _ _ _ _ _ _ _
      | exact ih2 _ _ _ _ _ _ _ _
      | exact ih3 _ _ _ _ _ _ _ _ _
      | exact ih4 _ _ _ _ _ _ _ _ _ _ _ _ _ _ _ _
      | exact ih5 _ _ _ _ _ _ _ _ _ _ _ _ _ _ _ _ _ _
      | exact ih6 _ _ _ _ _ _ _ _ _ _ _ _ _ _ _ _ _
      | exact op_Sets.mono _ _ _ _ _ _ _ _ _ _
      | exact op_Uses.mono _ _ _ _ _ _ _ _ _ _
      | exact secateurlaw08_Great.mono _ _ _ _ _ _
      | exact secateurtop_in.mono _ _ _
      | exact LeO.none _
      | refine LeO.ite ?_ ?_
      | refine LeO.bind ?_ (fun _ => ?_)
    · intro y0 y1 y2 y3 y4 y5 y6
      unfold secateurtop_TopCodes.j1
      repeat' first
      | (with_reducible exact ih0 _ _ _ _ _ _)
      | (with_reducible exact ih1 _ _ _ _ _ _ _)
      | (with_reducible exact ih2 _ _ _ _ _ _ _ _)
      | (with_reducible exact ih3 _ _ _ _ _ _ _ _ _)
      | (with_reducible exact ih4 _ _ _ _ _ _ _ _ _ _ _ _ _ _ _ _)
      | (with_reducible exact ih5 _ _ _ _ _ _ _ _ _ _ _ _ _ _ _ _ _ _)
      | (with_reducible exact ih6 _ _ _ _ _ _ _ _ _ _ _ _ _ _ _ _ _)
      | (with_reducible exact op_Sets.mono _ _ _ _ _ _ _ _ _ _)
      | (with_reducible exact op_Uses.mono _ _ _ _ _ _ _ _ _ _)
      | (with_reducible exact secateurlaw08_Great.mono _ _ _ _ _ _)
      | (with_reducible exact secateurtop_in.mono _ _ _)
      | (with_reducible exact LeO.refl _)
      | (with_reducible exact LeO.none _)
      | (with_reducible refine LeO.ite ?_ ?_)
      | (with_reducible refine LeO.bind ?_ (fun _ => ?_))
      | exact ih0 _ _ _ _ _ _
      | exact ih1 _ _ _ _ _ _ _
      | exact ih2 _ _ _ _ _ _ _ _
      | exact ih3 _ _ _ _ _ _ _ _ _
      | exact ih4 _ _ _ _ _ _ _ _ _ _ _ _ _ _ _ _
      | exact ih5 _ _ _ _ _ _ _ _ _ _ _ _ _ _ _ _ _ _
      | exact ih6 _ _ _ _ _ _ _ _ _ _ _ _ _ _ _ _ _
      | exact op_Sets.mono _ _ _ _ _ _ _ _ _ _
      | exact op_Uses.mono _ _ _ _ _ _ _ _ _ _
      | exact secateurlaw08_Great.mono _ _ _ _ _ _
      | exact secateurtop_in.mono _ _ _
      | exact LeO.none _
      | refine LeO.ite ?_ ?_
      | refine LeO.bind ?_ (fun _ => ?_)
    · intro y0 y1 y2 y3 y4 y5 y6 y7
      unfold secateurtop_TopCodes.l0
      repeat' first
      | (with_reducible exact ih0 _ _ _ _ _ _)
      | (with_reducible exact ih1 _ _ _ _ _ _ _)
      | (with_reducible exact ih2 _ _ _ _ _ _ _ _)
      | (with_reducible exact ih3 _ _ _ _ _ _ _ _ _)
      | (with_reducible exact ih4 _ _ _ _ _ _ _ _ _ _ _ _ _ _ _ _)
      | (with_reducible exact ih5 _ _ _ _ _ _ _ _ _ _ _ _ _ _ _ _ _ _)
      | (with_reducible exact ih6 _ _ _ _ _ _ _ _ _ _ _ _ _ _ _ _ _)
      | (with_reducible exact op_Sets.mono _ _ _ _ _ _ _ _ _ _)
      | (with_reducible exact op_Uses.mono _ _ _ _ _ _ _ _ _ _)
      | (with_reducible exact secateurlaw08_Great.mono _ _ _ _ _ _)
      | (with_reducible exact secateurtop_in.mono _ _ _)
      | (with_reducible exact LeO.refl _)
      | (with_reducible exact LeO.none _)
      | (with_reducible refine LeO.ite ?_ ?_)
      | (with_reducible refine LeO.bind ?_ (fun _ => ?_))
      | exact ih0 _ _ _ _ _ _
      | exact ih1 _ _ _ _ _ _ _
      | exact ih2 _ _ _ _ _ _ _ _
      | exact ih3 _ _ _ _ _ _ _ _ _
      | exact ih4 _ _ _ _ _ _ _ _ _ _ _ _ _ _ _ _
      | exact ih5 _ _ _ _ _ _ _ _ _ _ _ _ _ _ _ _ _ _
      | exact ih6 _ _ _ _ _ _ _ _ _ _ _ _ _ _ _ _ _
      | exact op_Sets.mono _ _ _ _ _ _ _ _ _ _
      | exact op_Uses.mono _ _ _ _ _ _ _ _ _ _
      | exact secateurlaw08_Great.mono _ _ _ _ _ _
      | exact secateurtop_in.mono _ _ _
      | exact LeO.none _
      | refine LeO.ite ?_ ?_
      | refine LeO.bind ?_ (fun _ => ?_)
    · intro y0 y1 y2 y3 y4 y5 y6 y7 y8
      unfold secateurtop_TopCodes.l1
      repeat' first
      | (with_reducible exact ih0 _ _ _ _ _ _)
      | (with_reducible exact ih1 _ _ _ _ _ _ _)
      | (with_reducible exact ih2 _ _ _ _ _ _ _ _)
      | (with_reducible exact ih3 _ _ _ _ _ _ _ _ _)
      | (with_reducible exact ih4 _ _ _ _ _ _ _ _ _ _ _ _ _ _ _ _)
      | (with_reducible exact ih5 _ _ _ _ _ _ _ _ _ _ _ _ _ _ _ _ _ _)
      | (with_reducible exact ih6 _ _ _ _ _ _ _ _ _ _ _ _ _ _ _ _ _)
      | (with_reducible exact op_Sets.mono _ _ _ _ _ _ _ _ _ _)
      | (with_reducible exact op_Uses.mono _ _ _ _ _ _ _ _ _ _)
      | (with_reducible exact secateurlaw08_Great.mono _ _ _ _ _ _)
      | (with_reducible exact secateurtop_in.mono _ _ _)
      | (with_reducible exact LeO.refl _)
      | (with_reducible exact LeO.none _)
      | (with_reducible refine LeO.ite ?_ ?_)
      | (with_reducible refine LeO.bind ?_ (fun _ => ?_))
      | exact ih0 _ _ _ _ _ _
      | exact ih1 _ _ _ _ _ _ _
      | exact ih2 _ _ _ _ _ _ _ _
      | exact ih3 _ _ _ _ _ _ _ _ _
      | exact ih4 _ _ _ _ _ _ _ _ _ _ _ _ _ _ _ _
      | exact ih5 _ _ _ _ _ _ _ _ _ _ _ _ _ _ _ _ _ _
      | exact ih6 _ _ _ _ _ _ _ _ _ _ _ _ _ _ _ _ _
      | exact op_Sets.mono _ _ _ _ _ _ _ _ _ _
      | exact op_Uses.mono _ _ _ _ _ _ _ _ _ _
      | exact secateurlaw08_Great.mono _ _ _ _ _ _
      | exact secateurtop_in.mono _ _ _
      | exact LeO.none _
      | refine LeO.ite ?_ ?_
      | refine LeO.bind ?_ (fun _ => ?_)
    · intro y0 y1 y2 y3 y4 y5 y6 y7 y8 y9 y10 y11 y12 y13 y14 y15
      unfold secateurtop_TopCodes.l2
      repeat' first
      | (with_reducible exact ih0 _ _ _ _ _ _)
      | (with_reducible exact ih1 _ _ _ _ _ _ _)
      | (with_reducible exact ih2 _ _ _ _ _ _ _ _)
      | (with_reducible exact ih3 _ _ _ _ _ _ _ _ _)
      | (with_reducible exact ih4 _ _ _ _ _ _ _ _ _ _ _ _ _ _ _ _)
      | (with_reducible exact ih5 _ _ _ _ _ _ _ _ _ _ _ _ _ _ _ _ _ _)
      | (with_reducible exact ih6 _ _ _ _ _ _ _ _ _ _ _ _ _ _ _ _ _)
      | (with_reducible exact op_Sets.mono _ _ _ _ _ _ _ _ _ _)
      | (with_reducible exact op_Uses.mono _ _ _ _ _ _ _ _ _ _)
      | (with_reducible exact secateurlaw08_Great.mono _ _ _ _ _ _)
      | (with_reducible exact secateurtop_in.mono _ _ _)
      | (with_reducible exact LeO.refl _)
      | (with_reducible exact LeO.none _)
      | (with_reducible refine LeO.ite ?_ ?_)
      | (with_reducible refine LeO.bind ?_ (fun _ => ?_))
      | exact ih0 _ _ _ _ _ _
      | exact ih1 _ _ _ _ _ _ _
      | exact ih2 _ _ _ _ _ _ _ _
      | exact ih3 _ _ _ _ _ _ _ _ _
      | exact ih4 _ _ _ _ _ _ _ _ _ _ _ _ _ _ _ _
      | exact ih5 _ _ _ _ _ _ _ _ _ _ _ _ _ _ _ _ _ _
      | exact ih6 _ _ _ _ _ _ _ _ _ _ _ _ _ _ _ _ _
      | exact op_Sets.mono _ _ _ _ _ _ _ _ _ _
      | exact op_Uses.mono _ _ _ _ _ _ _ _ _ _
      | exact secateurlaw08_Great.mono _ _ _ _ _ _
      | exact secateurtop_in.mono _ _ _
      | exact LeO.none _
      | refine LeO.ite ?_ ?_
      | refine LeO.bind ?_ (fun _ => ?_)
    · intro y0 y1 y2 y3 y4 y5 y6 y7 y8 y9 y10 y11 y12 y13 y14 y15 y16 y17
      unfold secateurtop_TopCodes.l3
      repeat' first
      | (with_reducible exact ih0 _ _ _ _ _ _)
      | (with_reducible exact ih1 _ _ _ _ _ _ _)
      | (with_reducible exact ih2 _ _ _ _ _ _ _ _)
      | (with_reducible exact ih3 _ _ _ _ _ _ _ _ _)
      | (with_reducible exact ih4 _ _ _ _ _ _ _ _ _ _ _ _ _ _ _ _)
      | (with_reducible exact ih5 _ _ _ _ _ _ _ _ _ _ _ _ _ _ _ _ _ _)
      | (with_reducible exact ih6 _ _ _ _ _ _ _ _ _ _ _ _ _ _ _ _ _)
      | (with_reducible exact op_Sets.mono _ _ _ _ _ _ _ _ _ _)
      | (with_reducible exact op_Uses.mono _ _ _ _ _ _ _ _ _ _)
      | (with_reducible exact secateurlaw08_Great.mono _ _ _ _ _ _)
      | (with_reducible exact secateurtop_in.mono _ _ _)
      | (with_reducible exact LeO.refl _)
      | (with_reducible exact LeO.none _)
      | (with_reducible refine LeO.ite ?_ ?_)
      | (with_reducible refine LeO.bind ?_ (fun _ => ?_))
      | exact ih0 _ _ _ _ _ _
      | exact ih1 _ _ _ _ _ _ _
      | exact ih2 _ _ _ _ _ _ _ _
      | exact ih3 _ _ _ _ _ _ _ _ _
      | exact ih4 _ _ _ _ _ _ _ _ _ _ _ _ _ _ _ _
      | exact ih5 _ _ _ _ _ _ _ _ _ _ _ _ _ _ _ _ _ _
      | exact ih6 _ _ _ _ _ _ _ _ _ _ _ _ _ _ _ _ _
      | exact op_Sets.mono _ _ _ _ _ _ _ _ _ _
      | exact op_Uses.mono _ _ _ _ _ _ _ _ _ _
      | exact secateurlaw08_Great.mono _ _ _ _ _ _
      | exact secateurtop_in.mono _ _ _
      | exact LeO.none _
      | refine LeO.ite ?_ ?_
      | refine LeO.bind ?_ (fun _ => ?_)
    · intro y0 y1 y2 y3 y4 y5 y6 y7 y8 y9 y10 y11 y12 y13 y14 y15 y16
      unfold secateurtop_TopCodes.j6
      repeat' first
      | (with_reducible exact ih0 _ _ _ _ _ _)
      | (with_reducible exact ih1 _ _ _ _ _ _ _)
      | (with_reducible exact ih2 _ _ _ _ _ _ _ _)
      | (with_reducible exact ih3 _ _ _ _ _ _ _ _ _)
      | (with_reducible exact ih4 _ _ _ _ _ _ _ _ _ _ _ _ _ _ _ _)
      | (with_reducible exact ih5 _ _ _ _ _ _ _ _ _ _ _ _ _ _ _ _ _ _)
      | (with_reducible exact ih6 _ _ _ _ _ _ _ _ _ _ _ _ _ _ _ _ _)
      | (with_reducible exact op_Sets.mono _ _ _ _ _ _ _ _ _ _)
      | (with_reducible exact op_Uses.mono _ _ _ _ _ _ _ _ _ _)
      | (with_reducible exact secateurlaw08_Great.mono _ _ _ _ _ _)
      | (with_reducible exact secateurtop_in.mono _ _ _)
      | (with_reducible exact LeO.refl _)
      | (with_reducible exact LeO.none _)
      | (with_reducible refine LeO.ite ?_ ?_)
      | (with_reducible refine LeO.bind ?_ (fun _ => ?_))
      | exact ih0 _ _ _ _ _ _
      | exact ih1 _ _ _ _ _ _ _
      | exact ih2 _ _ _ _ _ _ _ _
      | exact ih3 _ _ _ _ _ _ _ _ _
      | exact ih4 _ _ _ _ _ _ _ _ _ _ _ _ _ _ _ _
      | exact ih5 _ _ _ _ _ _ _ _ _ _ _ _ _ _ _ _ _ _
      | exact ih6 _ _ _ _ _ _ _ _ _ _ _ _ _ _ _ _ _
      | exact op_Sets.mono _ _ _ _ _ _ _ _ _ _
      | exact op_Uses.mono _ _ _ _ _ _ _ _ _ _
      | exact secateurlaw08_Great.mono _ _ _ _ _ _
      | exact secateurtop_in.mono _ _ _
      | exact LeO.none _
      | refine LeO.ite ?_ ?_
      | refine LeO.bind ?_ (fun _ => ?_)
theorem secateurtop_TopCodes.gmono : ∀ a0 a1 a2 a3 a4 k, LeO (secateurtop_TopCodes.g k a0 a1 a2 a3 a4) (secateurtop_TopCodes.g (k + 1) a0 a1 a2 a3 a4) := by
  intro a0 a1 a2 a3 a4 k
  obtain ⟨ih0, ih1, ih2, ih3, ih4, ih5, ih6⟩ := secateurtop_TopCodes.mono_l k
  unfold secateurtop_TopCodes.g
  repeat' first
      | (with_reducible exact ih0 _ _ _ _ _ _)
      | (with_reducible exact ih1 _ _ _ _ _ _ _)
      | (with_reducible exact ih2 _ _ _ _ _ _ _ _)
      | (with_reducible exact ih3 _ _ _ _ _ _ _ _ _)
      | (with_reducible exact ih4 _ _ _ _ _ _ _ _ _ _ _ _ _ _ _ _)
      | (with_reducible exact ih5 _ _ _ _ _ _ _ _ _ _ _ _ _ _ _ _ _ _)
      | (with_reducible exact ih6 _ _ _ _ _ _ _ _ _ _ _ _ _ _ _ _ _)
      | (with_reducible exact op_Sets.mono _ _ _ _ _ _ _ _ _ _)
      | (with_reducible exact op_Uses.mono _ _ _ _ _ _ _ _ _ _)
      | (with_reducible exact secateurlaw08_Great.mono _ _ _ _ _ _)
      | (with_reducible exact secateurtop_in.mono _ _ _)
      | (with_reducible exact LeO.refl _)
      | (with_reducible exact LeO.none _)
      | (with_reducible refine LeO.ite ?_ ?_)
      | (with_reducible refine LeO.bind ?_ (fun _ => ?_))
      | exact ih0 _ _ _ _ _ _
      | exact ih1 _ _ _ _ _ _ _
      | exact ih2 _ _ _ _ _ _ _ _
      | exact ih3 _ _ _ _ _ _ _ _ _
      | exact ih4 _ _ _ _ _ _ _ _ _ _ _ _ _ _ _ _
      | exact ih5 _ _ _ _ _ _ _ _ _ _ _ _ _ _ _ _ _ _
      | exact ih6 _ _ _ _ _ _ _ _ _ _ _ _ _ _ _ _ _
      | exact op_Sets.mono _ _ _ _ _ _ _ _ _ _
      | exact op_Uses.mono _ _ _ _ _ _ _ _ _ _
      | exact secateurlaw08_Great.mono _ _ _ _ _ _
      | exact secateurtop_in.mono _ _ _
      | exact LeO.none _
      | refine LeO.ite ?_ ?_
      | refine LeO.bind ?_ (fun _ => ?_)
set_option maxHeartbeats 8000000 in
set_option maxRecDepth 100000 in
theorem secateurtop_TopCodes.gcalls (k : Nat) (A0_0 : Option Addr) (c0_0 : Nat) (l0_0 : List (S37)) (A0_1 : Option Addr) (c0_1 : Nat) (l0_1 : List ByteArray) (a0_2 : ByteArray) (a0_3 : ByteArray) (a0_4 : ByteArray) (r : Bool) (w : World) (hG : GW w) (hr0_0 : Kd.C k37 w A0_0 l0_0.length l0_0) (hc0_0 : l0_0.length ≤ c0_0) (hr0_1 : Kd.C Kd.string w A0_1 l0_1.length l0_1) (hc0_1 : l0_1.length ≤ c0_1) (h : secateurtop_TopCodes.g k l0_0 l0_1 a0_2 a0_3 a0_4 = some r) (hrt : r = true) :
    Calls Tryd.prog 3 #[.agg #[.slice A0_0 l0_0.length c0_0, .slice A0_1 l0_1.length c0_1, .string a0_2, .string a0_3, .string a0_4]] w fun e w' => e = .returned (.bool r) ∧ Below w.heap.size w w' := by
  have hu27 := Tryd.underlying27
  have hu40 := Tryd.underlying40
  have hu44 := Tryd.underlying44
  have HR0_0 := Aside0.mk hr0_0
  have HC0_0 := Aside0.mk hc0_0
  clear hr0_0 hc0_0
  have HR0_1 := Aside0.mk hr0_1
  have HC0_1 := Aside0.mk hc0_1
  clear hr0_1 hc0_1
  have HRT := Aside0.mk hrt
  clear hrt
  have HG := Aside0.mk hG
  clear hG
  have HB := Aside0.mk (Below.refl w.heap.size w)
  have H : ((norm_Right.f ([] : List (S37)) ([] : List ByteArray) (⟨#[]⟩ : ByteArray) (⟨#[]⟩ : ByteArray) (⟨#[]⟩ : ByteArray)).bind fun t149 => (if t149 = 0 then ((op_Shape.f 15).bind fun t150 => (secateurtop_TopCodes.j0 k (t150.toList == ([97, 98, 70] : List UInt8)) l0_0 l0_1 a0_2 a0_3 a0_4)) else (secateurtop_TopCodes.j0 k false l0_0 l0_1 a0_2 a0_3 a0_4))) = some r := h
  clear h
  have HC2 := Aside0.mk H
  clear H
  go_enter Tryd.func3, Tryd.ntmps3
  go_upto_region 1 with (first | ((with_reducible refine gate_dst (N := 1) rfl ?_); refine box_event ?hg (N := 1) ?hd (cs := #[.slice A0_0 l0_0.length c0_0, .slice A0_1 l0_1.length c0_1, .string a0_2, .string a0_3, .string a0_4]) (t := 27) ?hr ?_; (case hd => rfl); (case hg => rfl); (case hr => first | (go_simp; done) | (go_simp; rfl)); intro gb148 hg w3 hbox hb; have n0_ := Aside0.mk (below_step (by repeat (first | (with_reducible first | exact HB.out | apply below_alloc | apply pw_below_drewN | apply below_drew1) | exact HB.out)) hb); have n1_ := Aside0.mk (hbox); have n2_ := Aside0.mk ((by rw [hg]; exact (below_size (by repeat (first | (with_reducible first | exact HB.out | apply below_alloc | apply pw_below_drewN | apply below_drew1) | exact HB.out))) : w.heap.size ≤ gb148)); have n3_ := Aside0.mk ((by rw [hg]; exact (below_size (by repeat (first | (with_reducible first | exact HB.out | apply below_alloc | apply pw_below_drewN | apply below_drew1) | exact HB.out))) : w.heap.size ≤ gb148)); clear HB; have HB := n0_; have BK148 := n1_; have GW148 := n2_; have GE148 := n3_; clear n0_ n1_ n2_ n3_; clear hb hbox hg))
  repeat (go_quiet (first | ((with_reducible refine gate_dst (N := 1) rfl ?_); refine box_event ?hg (N := 1) ?hd (cs := #[.slice A0_0 l0_0.length c0_0, .slice A0_1 l0_1.length c0_1, .string a0_2, .string a0_3, .string a0_4]) (t := 27) ?hr ?_; (case hd => rfl); (case hg => rfl); (case hr => first | (go_simp; done) | (go_simp; rfl)); intro gb148 hg w3 hbox hb; have n0_ := Aside0.mk (below_step (by repeat (first | (with_reducible first | exact HB.out | apply below_alloc | apply pw_below_drewN | apply below_drew1) | exact HB.out)) hb); have n1_ := Aside0.mk (hbox); have n2_ := Aside0.mk ((by rw [hg]; exact (below_size (by repeat (first | (with_reducible first | exact HB.out | apply below_alloc | apply pw_below_drewN | apply below_drew1) | exact HB.out))) : w.heap.size ≤ gb148)); have n3_ := Aside0.mk ((by rw [hg]; exact (below_size (by repeat (first | (with_reducible first | exact HB.out | apply below_alloc | apply pw_below_drewN | apply below_drew1) | exact HB.out))) : w.heap.size ≤ gb148)); clear HB; have HB := n0_; have BK148 := n1_; have GW148 := n2_; have GE148 := n3_; clear n0_ n1_ n2_ n3_; clear hb hbox hg)); go_upto_region 1 with (first | ((with_reducible refine gate_dst (N := 1) rfl ?_); refine box_event ?hg (N := 1) ?hd (cs := #[.slice A0_0 l0_0.length c0_0, .slice A0_1 l0_1.length c0_1, .string a0_2, .string a0_3, .string a0_4]) (t := 27) ?hr ?_; (case hd => rfl); (case hg => rfl); (case hr => first | (go_simp; done) | (go_simp; rfl)); intro gb148 hg w3 hbox hb; have n0_ := Aside0.mk (below_step (by repeat (first | (with_reducible first | exact HB.out | apply below_alloc | apply pw_below_drewN | apply below_drew1) | exact HB.out)) hb); have n1_ := Aside0.mk (hbox); have n2_ := Aside0.mk ((by rw [hg]; exact (below_size (by repeat (first | (with_reducible first | exact HB.out | apply below_alloc | apply pw_below_drewN | apply below_drew1) | exact HB.out))) : w.heap.size ≤ gb148)); have n3_ := Aside0.mk ((by rw [hg]; exact (below_size (by repeat (first | (with_reducible first | exact HB.out | apply below_alloc | apply pw_below_drewN | apply below_drew1) | exact HB.out))) : w.heap.size ≤ gb148)); clear HB; have HB := n0_; have BK148 := n1_; have GW148 := n2_; have GE148 := n3_; clear n0_ n1_ n2_ n3_; clear hb hbox hg)))
  (try simp only [Act.put, List.setIfInBounds_toArray, List.set_cons_zero, List.set_cons_succ])
  go_cut [3] (fun v3 wc => ∃ (kq : Nat) (x3_1 : Bool), v3 = .bool x3_1 ∧ Aside0 (secateurtop_TopCodes.j0 kq x3_1 l0_0 l0_1 a0_2 a0_3 a0_4 = some r) ∧ Aside0 (kq ≤ k) ∧ Aside0 (wc.heap[gb148]? = some (.cells #[(.slice A0_0 l0_0.length c0_0), (.slice A0_1 l0_1.length c0_1), .string a0_2, .string a0_3, .string a0_4] 27 (0, 0))) ∧ Aside0 (Below w.heap.size w wc))
  case first =>
    have H := HC2.out
    clear HC2
    replace H := Option.bind_eq_some_iff.mp H
    obtain ⟨t149, A40, H⟩ := H
    replace H : (if t149 = 0 then ((op_Shape.f 15).bind fun t150 => (secateurtop_TopCodes.j0 k (t150.toList == ([97, 98, 70] : List UInt8)) l0_0 l0_1 a0_2 a0_3 a0_4)) else (secateurtop_TopCodes.j0 k false l0_0 l0_1 a0_2 a0_3 a0_4)) = some r := H
    have A4 := Aside0.mk A40
    clear A40
    by_cases c5 : t149 = 0
    · rw [if_pos c5] at H
      have c5b0 : (t149 == 0) = true := beq_iff_eq.mpr c5
      have c5b1 : (t149 != 0) = false := bne_eq_false_iff_eq.mpr c5
      clear c5
      (first | rw [c5b0] | (simp only [i64_w, i32_w]; rw [c5b0]) | skip)
      replace H := Option.bind_eq_some_iff.mp H
      obtain ⟨t150, A60, H⟩ := H
      replace H : (secateurtop_TopCodes.j0 k (t150.toList == ([97, 98, 70] : List UInt8)) l0_0 l0_1 a0_2 a0_3 a0_4) = some r := H
      have A6 := Aside0.mk A60
      clear A60
      have H' := Aside0.mk H
      clear H
      go_wp2_with (first | (go_at_call 9; (refine (norm_Right.calls _ _ ([] : List (S37)) _ _ ([] : List ByteArray) (⟨#[]⟩ : ByteArray) (⟨#[]⟩ : ByteArray) (⟨#[]⟩ : ByteArray) t149 _ ?side5 ?side1 ?side2 ?side3 ?side4 A4.out).mono ?_); (case side1 => exact Kd.C_nil _ _); (case side2 => exact Nat.le_refl _); (case side3 => exact Kd.C_nil _ _); (case side4 => exact Nat.le_refl _); (case side5 => repeat (first | exact (GW.below HG.out HB.out) | (with_reducible refine GW.alloc ?_ _) | (with_reducible refine GW.drewN ?_ _) | (with_reducible refine GW.drew ?_))); rintro e w7 ⟨rfl, hb⟩; have n0_ := Aside0.mk (blk_below (g := gb148) (o := .cells #[.slice A0_0 l0_0.length c0_0, .slice A0_1 l0_1.length c0_1, .string a0_2, .string a0_3, .string a0_4] 27 (0, 0)) (by (with_reducible repeat (first | refine blk_drewN ?_ _ | refine blk_drew ?_ | refine blk_alloc ?_ _)); exact BK148.out) hb); have n1_ := Aside0.mk (below_step (by repeat (first | (with_reducible first | exact HB.out | apply below_alloc | apply pw_below_drewN | apply below_drew1 | refine below_set ?_ GE148.out) | exact HB.out)) hb); clear BK148; clear HB; have BK148 := n0_; have HB := n1_; clear n0_ n1_; (try clear hb); (try clear hb2); (try clear hk); (try clear hi)) | (go_at_call 10; (with_reducible refine (op_Shape.calls 15 t150 _ ?side1 A6.out).mono ?_); (case side1 => repeat (first | exact (GW.below HG.out HB.out) | (with_reducible refine GW.alloc ?_ _) | (with_reducible refine GW.drewN ?_ _) | (with_reducible refine GW.drew ?_))); rintro e w' ⟨rfl, ⟨nd, rfl⟩⟩; (try first | exact ⟨rfl, _, World.drewN_drewN _ _ _⟩ | exact ⟨rfl, _, Eq.trans (World.drewN_drewN _ _ _) (congrArg (World.drewN _) (Nat.add_assoc _ _ _))⟩)))
      repeat (go_quiet (first | (go_at_call 9; (refine (norm_Right.calls _ _ ([] : List (S37)) _ _ ([] : List ByteArray) (⟨#[]⟩ : ByteArray) (⟨#[]⟩ : ByteArray) (⟨#[]⟩ : ByteArray) t149 _ ?side5 ?side1 ?side2 ?side3 ?side4 A4.out).mono ?_); (case side1 => exact Kd.C_nil _ _); (case side2 => exact Nat.le_refl _); (case side3 => exact Kd.C_nil _ _); (case side4 => exact Nat.le_refl _); (case side5 => repeat (first | exact (GW.below HG.out HB.out) | (with_reducible refine GW.alloc ?_ _) | (with_reducible refine GW.drewN ?_ _) | (with_reducible refine GW.drew ?_))); rintro e w7 ⟨rfl, hb⟩; have n0_ := Aside0.mk (blk_below (g := gb148) (o := .cells #[.slice A0_0 l0_0.length c0_0, .slice A0_1 l0_1.length c0_1, .string a0_2, .string a0_3, .string a0_4] 27 (0, 0)) (by (with_reducible repeat (first | refine blk_drewN ?_ _ | refine blk_drew ?_ | refine blk_alloc ?_ _)); exact BK148.out) hb); have n1_ := Aside0.mk (below_step (by repeat (first | (with_reducible first | exact HB.out | apply below_alloc | apply pw_below_drewN | apply below_drew1 | refine below_set ?_ GE148.out) | exact HB.out)) hb); clear BK148; clear HB; have BK148 := n0_; have HB := n1_; clear n0_ n1_; (try clear hb); (try clear hb2); (try clear hk); (try clear hi)) | (go_at_call 10; (with_reducible refine (op_Shape.calls 15 t150 _ ?side1 A6.out).mono ?_); (case side1 => repeat (first | exact (GW.below HG.out HB.out) | (with_reducible refine GW.alloc ?_ _) | (with_reducible refine GW.drewN ?_ _) | (with_reducible refine GW.drew ?_))); rintro e w' ⟨rfl, ⟨nd, rfl⟩⟩; (try first | exact ⟨rfl, _, World.drewN_drewN _ _ _⟩ | exact ⟨rfl, _, Eq.trans (World.drewN_drewN _ _ _) (congrArg (World.drewN _) (Nat.add_assoc _ _ _))⟩))); try go_wp2_with (first | (go_at_call 9; (refine (norm_Right.calls _ _ ([] : List (S37)) _ _ ([] : List ByteArray) (⟨#[]⟩ : ByteArray) (⟨#[]⟩ : ByteArray) (⟨#[]⟩ : ByteArray) t149 _ ?side5 ?side1 ?side2 ?side3 ?side4 A4.out).mono ?_); (case side1 => exact Kd.C_nil _ _); (case side2 => exact Nat.le_refl _); (case side3 => exact Kd.C_nil _ _); (case side4 => exact Nat.le_refl _); (case side5 => repeat (first | exact (GW.below HG.out HB.out) | (with_reducible refine GW.alloc ?_ _) | (with_reducible refine GW.drewN ?_ _) | (with_reducible refine GW.drew ?_))); rintro e w7 ⟨rfl, hb⟩; have n0_ := Aside0.mk (blk_below (g := gb148) (o := .cells #[.slice A0_0 l0_0.length c0_0, .slice A0_1 l0_1.length c0_1, .string a0_2, .string a0_3, .string a0_4] 27 (0, 0)) (by (with_reducible repeat (first | refine blk_drewN ?_ _ | refine blk_drew ?_ | refine blk_alloc ?_ _)); exact BK148.out) hb); have n1_ := Aside0.mk (below_step (by repeat (first | (with_reducible first | exact HB.out | apply below_alloc | apply pw_below_drewN | apply below_drew1 | refine below_set ?_ GE148.out) | exact HB.out)) hb); clear BK148; clear HB; have BK148 := n0_; have HB := n1_; clear n0_ n1_; (try clear hb); (try clear hb2); (try clear hk); (try clear hi)) | (go_at_call 10; (with_reducible refine (op_Shape.calls 15 t150 _ ?side1 A6.out).mono ?_); (case side1 => repeat (first | exact (GW.below HG.out HB.out) | (with_reducible refine GW.alloc ?_ _) | (with_reducible refine GW.drewN ?_ _) | (with_reducible refine GW.drew ?_))); rintro e w' ⟨rfl, ⟨nd, rfl⟩⟩; (try first | exact ⟨rfl, _, World.drewN_drewN _ _ _⟩ | exact ⟨rfl, _, Eq.trans (World.drewN_drewN _ _ _) (congrArg (World.drewN _) (Nat.add_assoc _ _ _))⟩))))
      go_meet
      case rel => exact ⟨_, ((t150.toList == ([97, 98, 70] : List UInt8))), (by first | rfl | (simp; done) | (simp [*]; done) | (exfalso; simp only [beq_iff_eq] at *; omega)), H', ⟨by first | omega | exact Nat.le_refl _⟩, ⟨by (with_reducible repeat (first | refine blk_drewN ?_ _ | refine blk_drew ?_ | refine blk_alloc ?_ _)); exact BK148.out⟩, ⟨by repeat (first | (with_reducible first | exact HB.out | apply below_alloc | apply pw_below_drewN | apply below_drew1 | refine below_set ?_ GE148.out) | exact HB.out)⟩⟩
    · rw [if_neg c5] at H
      have c5b0 : (t149 == 0) = false := beq_eq_false_iff_ne.mpr c5
      have c5b1 : (t149 != 0) = true := bne_iff_ne.mpr c5
      (first | rw [c5b0] | (simp only [i64_w, i32_w]; rw [c5b0]) | skip)
      have H' := Aside0.mk H
      clear H
      go_wp2_with (first | (go_at_call 9; (refine (norm_Right.calls _ _ ([] : List (S37)) _ _ ([] : List ByteArray) (⟨#[]⟩ : ByteArray) (⟨#[]⟩ : ByteArray) (⟨#[]⟩ : ByteArray) t149 _ ?side5 ?side1 ?side2 ?side3 ?side4 A4.out).mono ?_); (case side1 => exact Kd.C_nil _ _); (case side2 => exact Nat.le_refl _); (case side3 => exact Kd.C_nil _ _); (case side4 => exact Nat.le_refl _); (case side5 => repeat (first | exact (GW.below HG.out HB.out) | (with_reducible refine GW.alloc ?_ _) | (with_reducible refine GW.drewN ?_ _) | (with_reducible refine GW.drew ?_))); rintro e w8 ⟨rfl, hb⟩; have n0_ := Aside0.mk (blk_below (g := gb148) (o := .cells #[.slice A0_0 l0_0.length c0_0, .slice A0_1 l0_1.length c0_1, .string a0_2, .string a0_3, .string a0_4] 27 (0, 0)) (by (with_reducible repeat (first | refine blk_drewN ?_ _ | refine blk_drew ?_ | refine blk_alloc ?_ _)); exact BK148.out) hb); have n1_ := Aside0.mk (below_step (by repeat (first | (with_reducible first | exact HB.out | apply below_alloc | apply pw_below_drewN | apply below_drew1 | refine below_set ?_ GE148.out) | exact HB.out)) hb); clear BK148; clear HB; have BK148 := n0_; have HB := n1_; clear n0_ n1_; (try clear hb); (try clear hb2); (try clear hk); (try clear hi)))
      repeat (go_quiet (first | (go_at_call 9; (refine (norm_Right.calls _ _ ([] : List (S37)) _ _ ([] : List ByteArray) (⟨#[]⟩ : ByteArray) (⟨#[]⟩ : ByteArray) (⟨#[]⟩ : ByteArray) t149 _ ?side5 ?side1 ?side2 ?side3 ?side4 A4.out).mono ?_); (case side1 => exact Kd.C_nil _ _); (case side2 => exact Nat.le_refl _); (case side3 => exact Kd.C_nil _ _); (case side4 => exact Nat.le_refl _); (case side5 => repeat (first | exact (GW.below HG.out HB.out) | (with_reducible refine GW.alloc ?_ _) | (with_reducible refine GW.drewN ?_ _) | (with_reducible refine GW.drew ?_))); rintro e w8 ⟨rfl, hb⟩; have n0_ := Aside0.mk (blk_below (g := gb148) (o := .cells #[.slice A0_0 l0_0.length c0_0, .slice A0_1 l0_1.length c0_1, .string a0_2, .string a0_3, .string a0_4] 27 (0, 0)) (by (with_reducible repeat (first | refine blk_drewN ?_ _ | refine blk_drew ?_ | refine blk_alloc ?_ _)); exact BK148.out) hb); have n1_ := Aside0.mk (below_step (by repeat (first | (with_reducible first | exact HB.out | apply below_alloc | apply pw_below_drewN | apply below_drew1 | refine below_set ?_ GE148.out) | exact HB.out)) hb); clear BK148; clear HB; have BK148 := n0_; have HB := n1_; clear n0_ n1_; (try clear hb); (try clear hb2); (try clear hk); (try clear hi))); try go_wp2_with (first | (go_at_call 9; (refine (norm_Right.calls _ _ ([] : List (S37)) _ _ ([] : List ByteArray) (⟨#[]⟩ : ByteArray) (⟨#[]⟩ : ByteArray) (⟨#[]⟩ : ByteArray) t149 _ ?side5 ?side1 ?side2 ?side3 ?side4 A4.out).mono ?_); (case side1 => exact Kd.C_nil _ _); (case side2 => exact Nat.le_refl _); (case side3 => exact Kd.C_nil _ _); (case side4 => exact Nat.le_refl _); (case side5 => repeat (first | exact (GW.below HG.out HB.out) | (with_reducible refine GW.alloc ?_ _) | (with_reducible refine GW.drewN ?_ _) | (with_reducible refine GW.drew ?_))); rintro e w8 ⟨rfl, hb⟩; have n0_ := Aside0.mk (blk_below (g := gb148) (o := .cells #[.slice A0_0 l0_0.length c0_0, .slice A0_1 l0_1.length c0_1, .string a0_2, .string a0_3, .string a0_4] 27 (0, 0)) (by (with_reducible repeat (first | refine blk_drewN ?_ _ | refine blk_drew ?_ | refine blk_alloc ?_ _)); exact BK148.out) hb); have n1_ := Aside0.mk (below_step (by repeat (first | (with_reducible first | exact HB.out | apply below_alloc | apply pw_below_drewN | apply below_drew1 | refine below_set ?_ GE148.out) | exact HB.out)) hb); clear BK148; clear HB; have BK148 := n0_; have HB := n1_; clear n0_ n1_; (try clear hb); (try clear hb2); (try clear hk); (try clear hi))))
      go_meet
      case rel => exact ⟨_, (false), (by first | rfl | (simp; done) | (simp [*]; done) | (exfalso; simp only [beq_iff_eq] at *; omega)), H', ⟨by first | omega | exact Nat.le_refl _⟩, ⟨by (with_reducible repeat (first | refine blk_drewN ?_ _ | refine blk_drew ?_ | refine blk_alloc ?_ _)); exact BK148.out⟩, ⟨by repeat (first | (with_reducible first | exact HB.out | apply below_alloc | apply pw_below_drewN | apply below_drew1 | refine below_set ?_ GE148.out) | exact HB.out)⟩⟩
  case rest =>
    clear HC2
    try clear p2
    try clear c3
    try clear c5
    try clear c5b0
    try clear c5b1
    obtain ⟨kq, x3_1, rfl, HA, HJ1, BK148, HB⟩ := hcut
    cases kq with
    | zero => exact absurd HA.out (by simp [secateurtop_TopCodes.j0])
    | succ kj1 =>
      have H := HA.out
      clear HA
      simp only [secateurtop_TopCodes.j0] at H
      have HC9 := Aside0.mk H
      clear H
      go_upto_region 2 with (fail)
      repeat (go_quiet (fail); go_upto_region 2 with (fail))
      go_cut [26] (fun v26 wc => ∃ (kq : Nat) (x26_8 : Bool), v26 = .bool x26_8 ∧ Aside0 (secateurtop_TopCodes.j1 kq x3_1 x26_8 l0_0 l0_1 a0_2 a0_3 a0_4 = some r) ∧ Aside0 (kq ≤ kj1) ∧ Aside0 (wc.heap[gb148]? = some (.cells #[(.slice A0_0 l0_0.length c0_0), (.slice A0_1 l0_1.length c0_1), .string a0_2, .string a0_3, .string a0_4] 27 (0, 0))) ∧ Aside0 (Below w.heap.size w wc))
      case first =>
        have H := HC9.out
        clear HC9
        replace H := Option.bind_eq_some_iff.mp H
        obtain ⟨t151, A100, H⟩ := H
        replace H : (if t151 = true then (secateurtop_TopCodes.j1 kj1 x3_1 true l0_0 l0_1 a0_2 a0_3 a0_4) else ((norm_Right.f l0_0 l0_1 a0_2 a0_3 a0_4).bind fun t152 => (secateurtop_TopCodes.j1 kj1 x3_1 (t152 != 0) l0_0 l0_1 a0_2 a0_3 a0_4))) = some r := H
        have A10 := Aside0.mk A100
        clear A100
        by_cases c11 : t151 = true
        · subst c11
          have H1 : (secateurtop_TopCodes.j1 kj1 x3_1 true l0_0 l0_1 a0_2 a0_3 a0_4) = some r := by rw [if_pos rfl] at H; exact H
          clear H
          have H := H1
          clear H1
          have H' := Aside0.mk H
          clear H
          have hcz12_0 : wc.cell? ⟨gb148, 0, none⟩ = some (.slice A0_0 l0_0.length c0_0) := (blk_cell BK148.out 0).trans rfl
          have hcz12_1 : wc.cell? ⟨gb148, 1, none⟩ = some (.slice A0_1 l0_1.length c0_1) := (blk_cell BK148.out 1).trans rfl
          have hcz12_2 : wc.cell? ⟨gb148, 2, none⟩ = some (.string a0_2) := (blk_cell BK148.out 2).trans rfl
          have hcz12_3 : wc.cell? ⟨gb148, 3, none⟩ = some (.string a0_3) := (blk_cell BK148.out 3).trans rfl
          have hcz12_4 : wc.cell? ⟨gb148, 4, none⟩ = some (.string a0_4) := (blk_cell BK148.out 4).trans rfl
          have hfz12_0 := blk_frozen BK148.out 0
          have hfz12_1 := blk_frozen BK148.out 1
          have hfz12_2 := blk_frozen BK148.out 2
          have hfz12_3 := blk_frozen BK148.out 3
          have hfz12_4 := blk_frozen BK148.out 4
          go_wp2_with (first | (go_at_call 11; (with_reducible refine (secateurlaw08_Great.calls kj1 _ _ l0_0 _ _ l0_1 a0_2 a0_3 a0_4 true _ ?side1 ?side2 ?side3 ?side4 A10.out).mono ?_); (case side1 => repeat (first | exact (Kd.C_below HR0_0.out HB.out) | (with_reducible refine Kd.C_alloc ?_ _) | (with_reducible refine Kd.C_drewN ?_ _) | (with_reducible refine Kd.C_drew ?_))); (case side2 => exact HC0_0.out); (case side3 => repeat (first | exact (Kd.C_below HR0_1.out HB.out) | (with_reducible refine Kd.C_alloc ?_ _) | (with_reducible refine Kd.C_drewN ?_ _) | (with_reducible refine Kd.C_drew ?_))); (case side4 => exact HC0_1.out); rintro e w13 ⟨rfl, hb⟩; have n0_ := Aside0.mk (blk_below (g := gb148) (o := .cells #[.slice A0_0 l0_0.length c0_0, .slice A0_1 l0_1.length c0_1, .string a0_2, .string a0_3, .string a0_4] 27 (0, 0)) (by (with_reducible repeat (first | refine blk_drewN ?_ _ | refine blk_drew ?_ | refine blk_alloc ?_ _)); exact BK148.out) hb); have n1_ := Aside0.mk (below_step (by repeat (first | (with_reducible first | exact HB.out | apply below_alloc | apply pw_below_drewN | apply below_drew1 | refine below_set ?_ GE148.out) | exact HB.out)) hb); clear BK148; clear HB; have BK148 := n0_; have HB := n1_; clear n0_ n1_; (try clear hb); (try clear hb2); (try clear hk); (try clear hi)))
          repeat (go_quiet (first | (go_at_call 11; (with_reducible refine (secateurlaw08_Great.calls kj1 _ _ l0_0 _ _ l0_1 a0_2 a0_3 a0_4 true _ ?side1 ?side2 ?side3 ?side4 A10.out).mono ?_); (case side1 => repeat (first | exact (Kd.C_below HR0_0.out HB.out) | (with_reducible refine Kd.C_alloc ?_ _) | (with_reducible refine Kd.C_drewN ?_ _) | (with_reducible refine Kd.C_drew ?_))); (case side2 => exact HC0_0.out); (case side3 => repeat (first | exact (Kd.C_below HR0_1.out HB.out) | (with_reducible refine Kd.C_alloc ?_ _) | (with_reducible refine Kd.C_drewN ?_ _) | (with_reducible refine Kd.C_drew ?_))); (case side4 => exact HC0_1.out); rintro e w13 ⟨rfl, hb⟩; have n0_ := Aside0.mk (blk_below (g := gb148) (o := .cells #[.slice A0_0 l0_0.length c0_0, .slice A0_1 l0_1.length c0_1, .string a0_2, .string a0_3, .string a0_4] 27 (0, 0)) (by (with_reducible repeat (first | refine blk_drewN ?_ _ | refine blk_drew ?_ | refine blk_alloc ?_ _)); exact BK148.out) hb); have n1_ := Aside0.mk (below_step (by repeat (first | (with_reducible first | exact HB.out | apply below_alloc | apply pw_below_drewN | apply below_drew1 | refine below_set ?_ GE148.out) | exact HB.out)) hb); clear BK148; clear HB; have BK148 := n0_; have HB := n1_; clear n0_ n1_; (try clear hb); (try clear hb2); (try clear hk); (try clear hi))); try go_wp2_with (first | (go_at_call 11; (with_reducible refine (secateurlaw08_Great.calls kj1 _ _ l0_0 _ _ l0_1 a0_2 a0_3 a0_4 true _ ?side1 ?side2 ?side3 ?side4 A10.out).mono ?_); (case side1 => repeat (first | exact (Kd.C_below HR0_0.out HB.out) | (with_reducible refine Kd.C_alloc ?_ _) | (with_reducible refine Kd.C_drewN ?_ _) | (with_reducible refine Kd.C_drew ?_))); (case side2 => exact HC0_0.out); (case side3 => repeat (first | exact (Kd.C_below HR0_1.out HB.out) | (with_reducible refine Kd.C_alloc ?_ _) | (with_reducible refine Kd.C_drewN ?_ _) | (with_reducible refine Kd.C_drew ?_))); (case side4 => exact HC0_1.out); rintro e w13 ⟨rfl, hb⟩; have n0_ := Aside0.mk (blk_below (g := gb148) (o := .cells #[.slice A0_0 l0_0.length c0_0, .slice A0_1 l0_1.length c0_1, .string a0_2, .string a0_3, .string a0_4] 27 (0, 0)) (by (with_reducible repeat (first | refine blk_drewN ?_ _ | refine blk_drew ?_ | refine blk_alloc ?_ _)); exact BK148.out) hb); have n1_ := Aside0.mk (below_step (by repeat (first | (with_reducible first | exact HB.out | apply below_alloc | apply pw_below_drewN | apply below_drew1 | refine below_set ?_ GE148.out) | exact HB.out)) hb); clear BK148; clear HB; have BK148 := n0_; have HB := n1_; clear n0_ n1_; (try clear hb); (try clear hb2); (try clear hk); (try clear hi))))
          go_meet
          case rel => exact ⟨_, (true), (by first | rfl | (simp; done) | (simp [*]; done) | (exfalso; simp only [beq_iff_eq] at *; omega)), H', ⟨by have := HJ1.out; first | omega | exact Nat.le_refl _⟩, ⟨by (with_reducible repeat (first | refine blk_drewN ?_ _ | refine blk_drew ?_ | refine blk_alloc ?_ _)); exact BK148.out⟩, ⟨by repeat (first | (with_reducible first | exact HB.out | apply below_alloc | apply pw_below_drewN | apply below_drew1 | refine below_set ?_ GE148.out) | exact HB.out)⟩⟩
        · replace c11 := Bool.eq_false_iff.mpr c11
          subst c11
          have H1 : ((norm_Right.f l0_0 l0_1 a0_2 a0_3 a0_4).bind fun t152 => (secateurtop_TopCodes.j1 kj1 x3_1 (t152 != 0) l0_0 l0_1 a0_2 a0_3 a0_4)) = some r := by rw [if_neg (show ¬ (false = true) by decide)] at H; exact H
          clear H
          have H := H1
          clear H1
          replace H := Option.bind_eq_some_iff.mp H
          obtain ⟨t152, A140, H⟩ := H
          replace H : (secateurtop_TopCodes.j1 kj1 x3_1 (t152 != 0) l0_0 l0_1 a0_2 a0_3 a0_4) = some r := H
          have A14 := Aside0.mk A140
          clear A140
          have H' := Aside0.mk H
          clear H
          have hcz15_0 : wc.cell? ⟨gb148, 0, none⟩ = some (.slice A0_0 l0_0.length c0_0) := (blk_cell BK148.out 0).trans rfl
          have hcz15_1 : wc.cell? ⟨gb148, 1, none⟩ = some (.slice A0_1 l0_1.length c0_1) := (blk_cell BK148.out 1).trans rfl
          have hcz15_2 : wc.cell? ⟨gb148, 2, none⟩ = some (.string a0_2) := (blk_cell BK148.out 2).trans rfl
          have hcz15_3 : wc.cell? ⟨gb148, 3, none⟩ = some (.string a0_3) := (blk_cell BK148.out 3).trans rfl
          have hcz15_4 : wc.cell? ⟨gb148, 4, none⟩ = some (.string a0_4) := (blk_cell BK148.out 4).trans rfl
          have hfz15_0 := blk_frozen BK148.out 0
          have hfz15_1 := blk_frozen BK148.out 1
          have hfz15_2 := blk_frozen BK148.out 2
          have hfz15_3 := blk_frozen BK148.out 3
          have hfz15_4 := blk_frozen BK148.out 4
          go_wp2_with (first | (go_at_call 11; (with_reducible refine (secateurlaw08_Great.calls kj1 _ _ l0_0 _ _ l0_1 a0_2 a0_3 a0_4 false _ ?side1 ?side2 ?side3 ?side4 A10.out).mono ?_); (case side1 => repeat (first | exact (Kd.C_below HR0_0.out HB.out) | (with_reducible refine Kd.C_alloc ?_ _) | (with_reducible refine Kd.C_drewN ?_ _) | (with_reducible refine Kd.C_drew ?_))); (case side2 => exact HC0_0.out); (case side3 => repeat (first | exact (Kd.C_below HR0_1.out HB.out) | (with_reducible refine Kd.C_alloc ?_ _) | (with_reducible refine Kd.C_drewN ?_ _) | (with_reducible refine Kd.C_drew ?_))); (case side4 => exact HC0_1.out); rintro e w16 ⟨rfl, hb⟩; have n0_ := Aside0.mk (blk_below (g := gb148) (o := .cells #[.slice A0_0 l0_0.length c0_0, .slice A0_1 l0_1.length c0_1, .string a0_2, .string a0_3, .string a0_4] 27 (0, 0)) (by (with_reducible repeat (first | refine blk_drewN ?_ _ | refine blk_drew ?_ | refine blk_alloc ?_ _)); exact BK148.out) hb); have n1_ := Aside0.mk (below_step (by repeat (first | (with_reducible first | exact HB.out | apply below_alloc | apply pw_below_drewN | apply below_drew1 | refine below_set ?_ GE148.out) | exact HB.out)) hb); clear BK148; clear HB; have BK148 := n0_; have HB := n1_; clear n0_ n1_; (try clear hb); (try clear hb2); (try clear hk); (try clear hi); have hcz17_0 : w16.cell? ⟨gb148, 0, none⟩ = some (.slice A0_0 l0_0.length c0_0) := (blk_cell BK148.out 0).trans rfl; have hcz17_1 : w16.cell? ⟨gb148, 1, none⟩ = some (.slice A0_1 l0_1.length c0_1) := (blk_cell BK148.out 1).trans rfl; have hcz17_2 : w16.cell? ⟨gb148, 2, none⟩ = some (.string a0_2) := (blk_cell BK148.out 2).trans rfl; have hcz17_3 : w16.cell? ⟨gb148, 3, none⟩ = some (.string a0_3) := (blk_cell BK148.out 3).trans rfl; have hcz17_4 : w16.cell? ⟨gb148, 4, none⟩ = some (.string a0_4) := (blk_cell BK148.out 4).trans rfl; have hfz17_0 := blk_frozen BK148.out 0; have hfz17_1 := blk_frozen BK148.out 1; have hfz17_2 := blk_frozen BK148.out 2; have hfz17_3 := blk_frozen BK148.out 3; have hfz17_4 := blk_frozen BK148.out 4) | (go_at_call 9; (with_reducible refine (norm_Right.calls _ _ l0_0 _ _ l0_1 a0_2 a0_3 a0_4 t152 _ ?side5 ?side1 ?side2 ?side3 ?side4 A14.out).mono ?_); (case side1 => repeat (first | exact (Kd.C_below HR0_0.out HB.out) | (with_reducible refine Kd.C_alloc ?_ _) | (with_reducible refine Kd.C_drewN ?_ _) | (with_reducible refine Kd.C_drew ?_))); (case side2 => exact HC0_0.out); (case side3 => repeat (first | exact (Kd.C_below HR0_1.out HB.out) | (with_reducible refine Kd.C_alloc ?_ _) | (with_reducible refine Kd.C_drewN ?_ _) | (with_reducible refine Kd.C_drew ?_))); (case side4 => exact HC0_1.out); (case side5 => repeat (first | exact (GW.below HG.out HB.out) | (with_reducible refine GW.alloc ?_ _) | (with_reducible refine GW.drewN ?_ _) | (with_reducible refine GW.drew ?_))); rintro e w18 ⟨rfl, hb⟩; have n0_ := Aside0.mk (blk_below (g := gb148) (o := .cells #[.slice A0_0 l0_0.length c0_0, .slice A0_1 l0_1.length c0_1, .string a0_2, .string a0_3, .string a0_4] 27 (0, 0)) (by (with_reducible repeat (first | refine blk_drewN ?_ _ | refine blk_drew ?_ | refine blk_alloc ?_ _)); exact BK148.out) hb); have n1_ := Aside0.mk (below_step (by repeat (first | (with_reducible first | exact HB.out | apply below_alloc | apply pw_below_drewN | apply below_drew1 | refine below_set ?_ GE148.out) | exact HB.out)) hb); clear BK148; clear HB; have BK148 := n0_; have HB := n1_; clear n0_ n1_; (try clear hb); (try clear hb2); (try clear hk); (try clear hi)))
          repeat (go_quiet (first | (go_at_call 11; (with_reducible refine (secateurlaw08_Great.calls kj1 _ _ l0_0 _ _ l0_1 a0_2 a0_3 a0_4 false _ ?side1 ?side2 ?side3 ?side4 A10.out).mono ?_); (case side1 => repeat (first | exact (Kd.C_below HR0_0.out HB.out) | (with_reducible refine Kd.C_alloc ?_ _) | (with_reducible refine Kd.C_drewN ?_ _) | (with_reducible refine Kd.C_drew ?_))); (case side2 => exact HC0_0.out); (case side3 => repeat (first | exact (Kd.C_below HR0_1.out HB.out) | (with_reducible refine Kd.C_alloc ?_ _) | (with_reducible refine Kd.C_drewN ?_ _) | (with_reducible refine Kd.C_drew ?_))); (case side4 => exact HC0_1.out); rintro e w16 ⟨rfl, hb⟩; have n0_ := Aside0.mk (blk_below (g := gb148) (o := .cells #[.slice A0_0 l0_0.length c0_0, .slice A0_1 l0_1.length c0_1, .string a0_2, .string a0_3, .string a0_4] 27 (0, 0)) (by (with_reducible repeat (first | refine blk_drewN ?_ _ | refine blk_drew ?_ | refine blk_alloc ?_ _)); exact BK148.out) hb); have n1_ := Aside0.mk (below_step (by repeat (first | (with_reducible first | exact HB.out | apply below_alloc | apply pw_below_drewN | apply below_drew1 | refine below_set ?_ GE148.out) | exact HB.out)) hb); clear BK148; clear HB; have BK148 := n0_; have HB := n1_; clear n0_ n1_; (try clear hb); (try clear hb2); (try clear hk); (try clear hi); have hcz17_0 : w16.cell? ⟨gb148, 0, none⟩ = some (.slice A0_0 l0_0.length c0_0) := (blk_cell BK148.out 0).trans rfl; have hcz17_1 : w16.cell? ⟨gb148, 1, none⟩ = some (.slice A0_1 l0_1.length c0_1) := (blk_cell BK148.out 1).trans rfl; have hcz17_2 : w16.cell? ⟨gb148, 2, none⟩ = some (.string a0_2) := (blk_cell BK148.out 2).trans rfl; have hcz17_3 : w16.cell? ⟨gb148, 3, none⟩ = some (.string a0_3) := (blk_cell BK148.out 3).trans rfl; have hcz17_4 : w16.cell? ⟨gb148, 4, none⟩ = some (.string a0_4) := (blk_cell BK148.out 4).trans rfl; have hfz17_0 := blk_frozen BK148.out 0; have hfz17_1 := blk_frozen BK148.out 1; have hfz17_2 := blk_frozen BK148.out 2; have hfz17_3 := blk_frozen BK148.out 3; have hfz17_4 := blk_frozen BK148.out 4) | (go_at_call 9; (with_reducible refine (norm_Right.calls _ _ l0_0 _ _ l0_1 a0_2 a0_3 a0_4 t152 _ ?side5 ?side1 ?side2 ?side3 ?side4 A14.out).mono ?_); (case side1 => repeat (first | exact (Kd.C_below HR0_0.out HB.out) | (with_reducible refine Kd.C_alloc ?_ _) | (with_reducible refine Kd.C_drewN ?_ _) | (with_reducible refine Kd.C_drew ?_))); (case side2 => exact HC0_0.out); (case side3 => repeat (first | exact (Kd.C_below HR0_1.out HB.out) | (with_reducible refine Kd.C_alloc ?_ _) | (with_reducible refine Kd.C_drewN ?_ _) | (with_reducible refine Kd.C_drew ?_))); (case side4 => exact HC0_1.out); (case side5 => repeat (first | exact (GW.below HG.out HB.out) | (with_reducible refine GW.alloc ?_ _) | (with_reducible refine GW.drewN ?_ _) | (with_reducible refine GW.drew ?_))); rintro e w18 ⟨rfl, hb⟩; have n0_ := Aside0.mk (blk_below (g := gb148) (o := .cells #[.slice A0_0 l0_0.length c0_0, .slice A0_1 l0_1.length c0_1, .string a0_2, .string a0_3, .string a0_4] 27 (0, 0)) (by (with_reducible repeat (first | refine blk_drewN ?_ _ | refine blk_drew ?_ | refine blk_alloc ?_ _)); exact BK148.out) hb); have n1_ := Aside0.mk (below_step (by repeat (first | (with_reducible first | exact HB.out | apply below_alloc | apply pw_below_drewN | apply below_drew1 | refine below_set ?_ GE148.out) | exact HB.out)) hb); clear BK148; clear HB; have BK148 := n0_; have HB := n1_; clear n0_ n1_; (try clear hb); (try clear hb2); (try clear hk); (try clear hi))); try go_wp2_with (first | (go_at_call 11; (with_reducible refine (secateurlaw08_Great.calls kj1 _ _ l0_0 _ _ l0_1 a0_2 a0_3 a0_4 false _ ?side1 ?side2 ?side3 ?side4 A10.out).mono ?_); (case side1 => repeat (first | exact (Kd.C_below HR0_0.out HB.out) | (with_reducible refine Kd.C_alloc ?_ _) | (with_reducible refine Kd.C_drewN ?_ _) | (with_reducible refine Kd.C_drew ?_))); (case side2 => exact HC0_0.out); (case side3 => repeat (first | exact (Kd.C_below HR0_1.out HB.out) | (with_reducible refine Kd.C_alloc ?_ _) | (with_reducible refine Kd.C_drewN ?_ _) | (with_reducible refine Kd.C_drew ?_))); (case side4 => exact HC0_1.out); rintro e w16 ⟨rfl, hb⟩; have n0_ := Aside0.mk (blk_below (g := gb148) (o := .cells #[.slice A0_0 l0_0.length c0_0, .slice A0_1 l0_1.length c0_1, .string a0_2, .string a0_3, .string a0_4] 27 (0, 0)) (by (with_reducible repeat (first | refine blk_drewN ?_ _ | refine blk_drew ?_ | refine blk_alloc ?_ _)); exact BK148.out) hb); have n1_ := Aside0.mk (below_step (by repeat (first | (with_reducible first | exact HB.out | apply below_alloc | apply pw_below_drewN | apply below_drew1 | refine below_set ?_ GE148.out) | exact HB.out)) hb); clear BK148; clear HB; have BK148 := n0_; have HB := n1_; clear n0_ n1_; (try clear hb); (try clear hb2); (try clear hk); (try clear hi); have hcz17_0 : w16.cell? ⟨gb148, 0, none⟩ = some (.slice A0_0 l0_0.length c0_0) := (blk_cell BK148.out 0).trans rfl; have hcz17_1 : w16.cell? ⟨gb148, 1, none⟩ = some (.slice A0_1 l0_1.length c0_1) := (blk_cell BK148.out 1).trans rfl; have hcz17_2 : w16.cell? ⟨gb148, 2, none⟩ = some (.string a0_2) := (blk_cell BK148.out 2).trans rfl; have hcz17_3 : w16.cell? ⟨gb148, 3, none⟩ = some (.string a0_3) := (blk_cell BK148.out 3).trans rfl; have hcz17_4 : w16.cell? ⟨gb148, 4, none⟩ = some (.string a0_4) := (blk_cell BK148.out 4).trans rfl; have hfz17_0 := blk_frozen BK148.out 0; have hfz17_1 := blk_frozen BK148.out 1; have hfz17_2 := blk_frozen BK148.out 2; have hfz17_3 := blk_frozen BK148.out 3; have hfz17_4 := blk_frozen BK148.out 4) | (go_at_call 9; (with_reducible refine (norm_Right.calls _ _ l0_0 _ _ l0_1 a0_2 a0_3 a0_4 t152 _ ?side5 ?side1 ?side2 ?side3 ?side4 A14.out).mono ?_); (case side1 => repeat (first | exact (Kd.C_below HR0_0.out HB.out) | (with_reducible refine Kd.C_alloc ?_ _) | (with_reducible refine Kd.C_drewN ?_ _) | (with_reducible refine Kd.C_drew ?_))); (case side2 => exact HC0_0.out); (case side3 => repeat (first | exact (Kd.C_below HR0_1.out HB.out) | (with_reducible refine Kd.C_alloc ?_ _) | (with_reducible refine Kd.C_drewN ?_ _) | (with_reducible refine Kd.C_drew ?_))); (case side4 => exact HC0_1.out); (case side5 => repeat (first | exact (GW.below HG.out HB.out) | (with_reducible refine GW.alloc ?_ _) | (with_reducible refine GW.drewN ?_ _) | (with_reducible refine GW.drew ?_))); rintro e w18 ⟨rfl, hb⟩; have n0_ := Aside0.mk (blk_below (g := gb148) (o := .cells #[.slice A0_0 l0_0.length c0_0, .slice A0_1 l0_1.length c0_1, .string a0_2, .string a0_3, .string a0_4] 27 (0, 0)) (by (with_reducible repeat (first | refine blk_drewN ?_ _ | refine blk_drew ?_ | refine blk_alloc ?_ _)); exact BK148.out) hb); have n1_ := Aside0.mk (below_step (by repeat (first | (with_reducible first | exact HB.out | apply below_alloc | apply pw_below_drewN | apply below_drew1 | refine below_set ?_ GE148.out) | exact HB.out)) hb); clear BK148; clear HB; have BK148 := n0_; have HB := n1_; clear n0_ n1_; (try clear hb); (try clear hb2); (try clear hk); (try clear hi))))
          go_meet
          case rel => exact ⟨_, ((t152 != 0)), (by first | rfl | (simp; done) | (simp [*]; done) | (exfalso; simp only [beq_iff_eq] at *; omega)), H', ⟨by have := HJ1.out; first | omega | exact Nat.le_refl _⟩, ⟨by (with_reducible repeat (first | refine blk_drewN ?_ _ | refine blk_drew ?_ | refine blk_alloc ?_ _)); exact BK148.out⟩, ⟨by repeat (first | (with_reducible first | exact HB.out | apply below_alloc | apply pw_below_drewN | apply below_drew1 | refine below_set ?_ GE148.out) | exact HB.out)⟩⟩
      case rest =>
        clear HC9
        try clear c1
        try clear p2
        try clear c3
        try clear c5
        try clear c5b0
        try clear c5b1
        try clear c11
        try clear hcz12_0
        try clear hcz12_1
        try clear hcz12_2
        try clear hcz12_3
        try clear hcz12_4
        try clear hcz15_0
        try clear hcz15_1
        try clear hcz15_2
        try clear hcz15_3
        try clear hcz15_4
        try clear hcz17_0
        try clear hcz17_1
        try clear hcz17_2
        try clear hcz17_3
        try clear hcz17_4
        try clear hfz12_0
        try clear hfz12_1
        try clear hfz12_2
        try clear hfz12_3
        try clear hfz12_4
        try clear hfz15_0
        try clear hfz15_1
        try clear hfz15_2
        try clear hfz15_3
        try clear hfz15_4
        try clear hfz17_0
        try clear hfz17_1
        try clear hfz17_2
        try clear hfz17_3
        try clear hfz17_4
        try clear p2
        obtain ⟨kq, x26_8, rfl, HA, HJ8, BK148, HB⟩ := hcut
        cases kq with
        | zero => exact absurd HA.out (by simp [secateurtop_TopCodes.j1])
        | succ kj8 =>
          have H := HA.out
          clear HA
          simp only [secateurtop_TopCodes.j1] at H
          by_cases c19 : x26_8 = true
          · subst c19
            have H1 : (some x3_1) = some r := by rw [if_pos rfl] at H; exact H
            clear H
            have H := H1
            clear H1
            obtain rfl := Option.some.inj H
            simp only [Option.some.injEq, Prod.mk.injEq] at H
            obtain ⟨rfl⟩ := H
            go_wp2
            repeat (go_quiet (fail); try go_wp2)
            go_ret
            exact ⟨by first | rfl | (simp [errW_none, errW_some] <;> rfl) | (simp [*, errW_none, errW_some] <;> rfl), by repeat (first | (with_reducible first | exact HB.out | apply below_alloc | apply pw_below_drewN | apply below_drew1 | refine below_set ?_ GE148.out) | exact HB.out)⟩
          · replace c19 := Bool.eq_false_iff.mpr c19
            subst c19
            have H1 : ((norm_Strings.f l0_0 l0_1 a0_2 a0_3 a0_4).bind fun t153 => (secateurtop_TopCodes.l0 kj8 x3_1 t153 0 l0_0 l0_1 a0_2 a0_3 a0_4)) = some r := by rw [if_neg (show ¬ (false = true) by decide)] at H; exact H
            clear H
            have H := H1
            clear H1
            replace H := Option.bind_eq_some_iff.mp H
            obtain ⟨t153, A200, H⟩ := H
            replace H : (secateurtop_TopCodes.l0 kj8 x3_1 t153 0 l0_0 l0_1 a0_2 a0_3 a0_4) = some r := H
            have A20 := Aside0.mk A200
            clear A200
            have H' := Aside0.mk H
            clear H
            have hcz21_0 : wc.cell? ⟨gb148, 0, none⟩ = some (.slice A0_0 l0_0.length c0_0) := (blk_cell BK148.out 0).trans rfl
            have hcz21_1 : wc.cell? ⟨gb148, 1, none⟩ = some (.slice A0_1 l0_1.length c0_1) := (blk_cell BK148.out 1).trans rfl
            have hcz21_2 : wc.cell? ⟨gb148, 2, none⟩ = some (.string a0_2) := (blk_cell BK148.out 2).trans rfl
            have hcz21_3 : wc.cell? ⟨gb148, 3, none⟩ = some (.string a0_3) := (blk_cell BK148.out 3).trans rfl
            have hcz21_4 : wc.cell? ⟨gb148, 4, none⟩ = some (.string a0_4) := (blk_cell BK148.out 4).trans rfl
            have hfz21_0 := blk_frozen BK148.out 0
            have hfz21_1 := blk_frozen BK148.out 1
            have hfz21_2 := blk_frozen BK148.out 2
            have hfz21_3 := blk_frozen BK148.out 3
            have hfz21_4 := blk_frozen BK148.out 4
            go_wp2_with (first | (go_at_call 12; (with_reducible refine (norm_Strings.calls _ _ l0_0 _ _ l0_1 a0_2 a0_3 a0_4 t153 _ ?side1 ?side2 ?side3 ?side4 A20.out).mono ?_); (case side1 => repeat (first | exact (Kd.C_below HR0_0.out HB.out) | (with_reducible refine Kd.C_alloc ?_ _) | (with_reducible refine Kd.C_drewN ?_ _) | (with_reducible refine Kd.C_drew ?_))); (case side2 => exact HC0_0.out); (case side3 => repeat (first | exact (Kd.C_below HR0_1.out HB.out) | (with_reducible refine Kd.C_alloc ?_ _) | (with_reducible refine Kd.C_drewN ?_ _) | (with_reducible refine Kd.C_drew ?_))); (case side4 => exact HC0_1.out); rintro e w22 ⟨v154, rfl, ho0, hb⟩; have n0_ := Aside0.mk (Kd.R_lower ho0 (below_size (by repeat (first | (with_reducible first | exact HB.out | apply below_alloc | apply pw_below_drewN | apply below_drew1 | refine below_set ?_ GE148.out) | exact HB.out)))); have n1_ := Aside0.mk (blk_below (g := gb148) (o := .cells #[.slice A0_0 l0_0.length c0_0, .slice A0_1 l0_1.length c0_1, .string a0_2, .string a0_3, .string a0_4] 27 (0, 0)) (by (with_reducible repeat (first | refine blk_drewN ?_ _ | refine blk_drew ?_ | refine blk_alloc ?_ _)); exact BK148.out) hb); have n2_ := Aside0.mk (below_step (by repeat (first | (with_reducible first | exact HB.out | apply below_alloc | apply pw_below_drewN | apply below_drew1 | refine below_set ?_ GE148.out) | exact HB.out)) hb); clear BK148; clear HB; have HO155 := n0_; have BK148 := n1_; have HB := n2_; clear n0_ n1_ n2_; (try clear hb); (try clear hb2); (try clear hk); (try clear hi); (try clear ho0)))
            repeat (go_quiet (first | (go_at_call 12; (with_reducible refine (norm_Strings.calls _ _ l0_0 _ _ l0_1 a0_2 a0_3 a0_4 t153 _ ?side1 ?side2 ?side3 ?side4 A20.out).mono ?_); (case side1 => repeat (first | exact (Kd.C_below HR0_0.out HB.out) | (with_reducible refine Kd.C_alloc ?_ _) | (with_reducible refine Kd.C_drewN ?_ _) | (with_reducible refine Kd.C_drew ?_))); (case side2 => exact HC0_0.out); (case side3 => repeat (first | exact (Kd.C_below HR0_1.out HB.out) | (with_reducible refine Kd.C_alloc ?_ _) | (with_reducible refine Kd.C_drewN ?_ _) | (with_reducible refine Kd.C_drew ?_))); (case side4 => exact HC0_1.out); rintro e w22 ⟨v154, rfl, ho0, hb⟩; have n0_ := Aside0.mk (Kd.R_lower ho0 (below_size (by repeat (first | (with_reducible first | exact HB.out | apply below_alloc | apply pw_below_drewN | apply below_drew1 | refine below_set ?_ GE148.out) | exact HB.out)))); have n1_ := Aside0.mk (blk_below (g := gb148) (o := .cells #[.slice A0_0 l0_0.length c0_0, .slice A0_1 l0_1.length c0_1, .string a0_2, .string a0_3, .string a0_4] 27 (0, 0)) (by (with_reducible repeat (first | refine blk_drewN ?_ _ | refine blk_drew ?_ | refine blk_alloc ?_ _)); exact BK148.out) hb); have n2_ := Aside0.mk (below_step (by repeat (first | (with_reducible first | exact HB.out | apply below_alloc | apply pw_below_drewN | apply below_drew1 | refine below_set ?_ GE148.out) | exact HB.out)) hb); clear BK148; clear HB; have HO155 := n0_; have BK148 := n1_; have HB := n2_; clear n0_ n1_ n2_; (try clear hb); (try clear hb2); (try clear hk); (try clear hi); (try clear ho0))); try go_wp2_with (first | (go_at_call 12; (with_reducible refine (norm_Strings.calls _ _ l0_0 _ _ l0_1 a0_2 a0_3 a0_4 t153 _ ?side1 ?side2 ?side3 ?side4 A20.out).mono ?_); (case side1 => repeat (first | exact (Kd.C_below HR0_0.out HB.out) | (with_reducible refine Kd.C_alloc ?_ _) | (with_reducible refine Kd.C_drewN ?_ _) | (with_reducible refine Kd.C_drew ?_))); (case side2 => exact HC0_0.out); (case side3 => repeat (first | exact (Kd.C_below HR0_1.out HB.out) | (with_reducible refine Kd.C_alloc ?_ _) | (with_reducible refine Kd.C_drewN ?_ _) | (with_reducible refine Kd.C_drew ?_))); (case side4 => exact HC0_1.out); rintro e w22 ⟨v154, rfl, ho0, hb⟩; have n0_ := Aside0.mk (Kd.R_lower ho0 (below_size (by repeat (first | (with_reducible first | exact HB.out | apply below_alloc | apply pw_below_drewN | apply below_drew1 | refine below_set ?_ GE148.out) | exact HB.out)))); have n1_ := Aside0.mk (blk_below (g := gb148) (o := .cells #[.slice A0_0 l0_0.length c0_0, .slice A0_1 l0_1.length c0_1, .string a0_2, .string a0_3, .string a0_4] 27 (0, 0)) (by (with_reducible repeat (first | refine blk_drewN ?_ _ | refine blk_drew ?_ | refine blk_alloc ?_ _)); exact BK148.out) hb); have n2_ := Aside0.mk (below_step (by repeat (first | (with_reducible first | exact HB.out | apply below_alloc | apply pw_below_drewN | apply below_drew1 | refine below_set ?_ GE148.out) | exact HB.out)) hb); clear BK148; clear HB; have HO155 := n0_; have BK148 := n1_; have HB := n2_; clear n0_ n1_ n2_; (try clear hb); (try clear hb2); (try clear hk); (try clear hi); (try clear ho0))))
            go_loopg [5] kj8 (fun kq v5 w' => ∃ (x5_3 : Int), v5 = .int .i64 x5_3 ∧ Aside0 (secateurtop_TopCodes.l0 kq x3_1 t153 x5_3 l0_0 l0_1 a0_2 a0_3 a0_4 = some r) ∧ Aside0 (kq ≤ kj8) ∧ Aside0 (Kd.R Kd.string 9 w' w.heap.size (fun _ => True) v154 t153) ∧ Aside0 (w'.heap[gb148]? = some (.cells #[(.slice A0_0 l0_0.length c0_0), (.slice A0_1 l0_1.length c0_1), .string a0_2, .string a0_3, .string a0_4] 27 (0, 0))) ∧ Aside0 (Below w.heap.size w w'))
            case atStart => exact ⟨(0), (by first | rfl | (simp; done) | (simp [*]; done) | (exfalso; simp only [beq_iff_eq] at *; omega)), H', ⟨Nat.le_refl _⟩, ⟨by (with_reducible repeat (first | apply Kd.R_alloc | apply Kd.R_drewN | apply Kd.R_drew)); exact HO155.out⟩, ⟨by (with_reducible repeat (first | refine blk_drewN ?_ _ | refine blk_drew ?_ | refine blk_alloc ?_ _)); exact BK148.out⟩, ⟨by repeat (first | (with_reducible first | exact HB.out | apply below_alloc | apply pw_below_drewN | apply below_drew1 | refine below_set ?_ GE148.out) | exact HB.out)⟩⟩
            case round =>
              clear H'
              try clear c1
              try clear p2
              try clear c3
              try clear c5
              try clear c5b0
              try clear c5b1
              try clear c11
              try clear c19
              try clear hcz12_0
              try clear hcz12_1
              try clear hcz12_2
              try clear hcz12_3
              try clear hcz12_4
              try clear hcz15_0
              try clear hcz15_1
              try clear hcz15_2
              try clear hcz15_3
              try clear hcz15_4
              try clear hcz17_0
              try clear hcz17_1
              try clear hcz17_2
              try clear hcz17_3
              try clear hcz17_4
              try clear hcz21_0
              try clear hcz21_1
              try clear hcz21_2
              try clear hcz21_3
              try clear hcz21_4
              try clear hfz12_0
              try clear hfz12_1
              try clear hfz12_2
              try clear hfz12_3
              try clear hfz12_4
              try clear hfz15_0
              try clear hfz15_1
              try clear hfz15_2
              try clear hfz15_3
              try clear hfz15_4
              try clear hfz17_0
              try clear hfz17_1
              try clear hfz17_2
              try clear hfz17_3
              try clear hfz17_4
              try clear hfz21_0
              try clear hfz21_1
              try clear hfz21_2
              try clear hfz21_3
              try clear hfz21_4
              try clear p2
              obtain ⟨x5_3, rfl, HA, HK3, HO_4, BK148, HB⟩ := hrel
              cases gk with
              | zero => exact absurd HA.out (by simp [secateurtop_TopCodes.l0])
              | succ k3 =>
                have H := HA.out
                clear HA
                simp only [secateurtop_TopCodes.l0] at H
                by_cases c23 : x5_3 < (l0_0.length : Int)
                · rw [if_pos c23] at H
                  have c23b0 : decide (x5_3 < (l0_0.length : Int)) = true := decide_eq_true c23
                  clear c23
                  have H' := Aside0.mk H
                  clear H
                  have hcz24_0 : wr.cell? ⟨gb148, 0, none⟩ = some (.slice A0_0 l0_0.length c0_0) := (blk_cell BK148.out 0).trans rfl
                  have hcz24_1 : wr.cell? ⟨gb148, 1, none⟩ = some (.slice A0_1 l0_1.length c0_1) := (blk_cell BK148.out 1).trans rfl
                  have hcz24_2 : wr.cell? ⟨gb148, 2, none⟩ = some (.string a0_2) := (blk_cell BK148.out 2).trans rfl
                  have hcz24_3 : wr.cell? ⟨gb148, 3, none⟩ = some (.string a0_3) := (blk_cell BK148.out 3).trans rfl
                  have hcz24_4 : wr.cell? ⟨gb148, 4, none⟩ = some (.string a0_4) := (blk_cell BK148.out 4).trans rfl
                  have hfz24_0 := blk_frozen BK148.out 0
                  have hfz24_1 := blk_frozen BK148.out 1
                  have hfz24_2 := blk_frozen BK148.out 2
                  have hfz24_3 := blk_frozen BK148.out 3
                  have hfz24_4 := blk_frozen BK148.out 4
                  go_wp2
                  repeat (go_quiet (fail); try go_wp2)
                  go_loopg [6] k3 (fun kq v6 w' => ∃ (x6_4 : Int), v6 = .int .i64 x6_4 ∧ Aside0 (secateurtop_TopCodes.l1 kq x3_1 t153 x5_3 x6_4 l0_0 l0_1 a0_2 a0_3 a0_4 = some r) ∧ Aside0 (kq ≤ k3) ∧ Aside0 (Kd.R Kd.string 9 w' w.heap.size (fun _ => True) v154 t153) ∧ Aside0 (w'.heap[gb148]? = some (.cells #[(.slice A0_0 l0_0.length c0_0), (.slice A0_1 l0_1.length c0_1), .string a0_2, .string a0_3, .string a0_4] 27 (0, 0))) ∧ Aside0 (Below w.heap.size w w'))
                  case atStart => exact ⟨(0), (by first | rfl | (simp; done) | (simp [*]; done) | (exfalso; simp only [beq_iff_eq] at *; omega)), H', ⟨Nat.le_refl _⟩, ⟨by (with_reducible repeat (first | apply Kd.R_alloc | apply Kd.R_drewN | apply Kd.R_drew)); exact HO_4.out⟩, ⟨by (with_reducible repeat (first | refine blk_drewN ?_ _ | refine blk_drew ?_ | refine blk_alloc ?_ _)); exact BK148.out⟩, ⟨by repeat (first | (with_reducible first | exact HB.out | apply below_alloc | apply pw_below_drewN | apply below_drew1 | refine below_set ?_ GE148.out) | exact HB.out)⟩⟩
                  case round =>
                    clear H'
                    try clear c1
                    try clear c2
                    try clear p2
                    try clear c3
                    try clear c5
                    try clear c5b0
                    try clear c5b1
                    try clear c11
                    try clear c19
                    try clear c23
                    try clear c23b0
                    try clear hcz12_0
                    try clear hcz12_1
                    try clear hcz12_2
                    try clear hcz12_3
                    try clear hcz12_4
                    try clear hcz15_0
                    try clear hcz15_1
                    try clear hcz15_2
                    try clear hcz15_3
                    try clear hcz15_4
                    try clear hcz17_0
                    try clear hcz17_1
                    try clear hcz17_2
                    try clear hcz17_3
                    try clear hcz17_4
                    try clear hcz21_0
                    try clear hcz21_1
                    try clear hcz21_2
                    try clear hcz21_3
                    try clear hcz21_4
                    try clear hcz24_0
                    try clear hcz24_1
                    try clear hcz24_2
                    try clear hcz24_3
                    try clear hcz24_4
                    try clear hfz12_0
                    try clear hfz12_1
                    try clear hfz12_2
                    try clear hfz12_3
                    try clear hfz12_4
                    try clear hfz15_0
                    try clear hfz15_1
                    try clear hfz15_2
                    try clear hfz15_3
                    try clear hfz15_4
                    try clear hfz17_0
                    try clear hfz17_1
                    try clear hfz17_2
                    try clear hfz17_3
                    try clear hfz17_4
                    try clear hfz21_0
                    try clear hfz21_1
                    try clear hfz21_2
                    try clear hfz21_3
                    try clear hfz21_4
                    try clear hfz24_0
                    try clear hfz24_1
                    try clear hfz24_2
                    try clear hfz24_3
                    try clear hfz24_4
                    try clear p2
                    obtain ⟨x6_4, rfl, HA, HK4, HO_4, BK148, HB⟩ := hrel
                    cases gk with
                    | zero => exact absurd HA.out (by simp [secateurtop_TopCodes.l1])
                    | succ k4 =>
                      have H := HA.out
                      clear HA
                      simp only [secateurtop_TopCodes.l1] at H
                      by_cases c25 : 0 ≤ x5_3
                      · rw [if_pos c25] at H
                        have c25b0 : decide (0 ≤ x5_3) = true := decide_eq_true c25
                        clear c25
                        by_cases c26 : x5_3 < (l0_0.length : Int)
                        · rw [if_pos c26] at H
                          have c26b0 : decide (x5_3 < (l0_0.length : Int)) = true := decide_eq_true c26
                          clear c26
                          by_cases c27 : x6_4 < (((rd_T37 l0_0 x5_3).f6).length : Int)
                          · rw [if_pos c27] at H
                            have c27b0 : decide (x6_4 < (((rd_T37 l0_0 x5_3).f6).length : Int)) = true := decide_eq_true c27
                            clear c27
                            by_cases c28 : 0 ≤ x6_4
                            · rw [if_pos c28] at H
                              have c28b0 : decide (0 ≤ x6_4) = true := decide_eq_true c28
                              clear c28
                              have H' := Aside0.mk H
                              clear H
                              have hcz29_0 : wr.cell? ⟨gb148, 0, none⟩ = some (.slice A0_0 l0_0.length c0_0) := (blk_cell BK148.out 0).trans rfl
                              have hcz29_1 : wr.cell? ⟨gb148, 1, none⟩ = some (.slice A0_1 l0_1.length c0_1) := (blk_cell BK148.out 1).trans rfl
                              have hcz29_2 : wr.cell? ⟨gb148, 2, none⟩ = some (.string a0_2) := (blk_cell BK148.out 2).trans rfl
                              have hcz29_3 : wr.cell? ⟨gb148, 3, none⟩ = some (.string a0_3) := (blk_cell BK148.out 3).trans rfl
                              have hcz29_4 : wr.cell? ⟨gb148, 4, none⟩ = some (.string a0_4) := (blk_cell BK148.out 4).trans rfl
                              have hfz29_0 := blk_frozen BK148.out 0
                              have hfz29_1 := blk_frozen BK148.out 1
                              have hfz29_2 := blk_frozen BK148.out 2
                              have hfz29_3 := blk_frozen BK148.out 3
                              have hfz29_4 := blk_frozen BK148.out 4
                              have p156 : 0 ≤ (x5_3 : Int) := of_decide_eq_true (by first | (with_reducible assumption) | assumption)
                              have q156 : x5_3 < (l0_0.length : Int) := of_decide_eq_true (by first | (with_reducible assumption) | assumption)
                              obtain ⟨ad156, A156_4, c156_4, A156_5, c156_5, A156_6, c156_6, e156, hx156_0, hx156_1, hx156_2, hx156_3, hx156_4, hx156_5, hx156_6, hl156_4, hi156_4, hl156_5, hi156_5, hl156_6, hi156_6⟩ := at_T37 HR0_0.out x5_3 p156 q156
                              cases e156
                              replace hx156_0 := (HB.out.cell (World.block_lt_of_cell? w _ hx156_0)).trans hx156_0
                              replace hx156_1 := (HB.out.cell (World.block_lt_of_cell? w _ hx156_1)).trans hx156_1
                              replace hx156_2 := (HB.out.cell (World.block_lt_of_cell? w _ hx156_2)).trans hx156_2
                              replace hx156_3 := (HB.out.cell (World.block_lt_of_cell? w _ hx156_3)).trans hx156_3
                              replace hx156_4 := (HB.out.cell (World.block_lt_of_cell? w _ hx156_4)).trans hx156_4
                              replace hx156_5 := (HB.out.cell (World.block_lt_of_cell? w _ hx156_5)).trans hx156_5
                              replace hx156_6 := (HB.out.cell (World.block_lt_of_cell? w _ hx156_6)).trans hx156_6
                              have HR156_4 := Aside0.mk hi156_4
                              have HC156_4 := Aside0.mk hl156_4
                              clear hi156_4 hl156_4
                              have HR156_5 := Aside0.mk hi156_5
                              have HC156_5 := Aside0.mk hl156_5
                              clear hi156_5 hl156_5
                              have HR156_6 := Aside0.mk hi156_6
                              have HC156_6 := Aside0.mk hl156_6
                              clear hi156_6 hl156_6
                              replace p156 := eq_true p156
                              replace q156 := eq_true q156
                              have p157 : 0 ≤ (x5_3 : Int) := of_decide_eq_true (by first | (with_reducible assumption) | assumption)
                              have q157 : x5_3 < (l0_0.length : Int) := of_decide_eq_true (by first | (with_reducible assumption) | assumption)
                              obtain ⟨ad157, A157_4, c157_4, A157_5, c157_5, A157_6, c157_6, e157, hx157_0, hx157_1, hx157_2, hx157_3, hx157_4, hx157_5, hx157_6, hl157_4, hi157_4, hl157_5, hi157_5, hl157_6, hi157_6⟩ := at_T37 HR0_0.out x5_3 p157 q157
                              obtain rfl : ad156 = ad157 := (by injection e157)
                              replace hx157_0 := (HB.out.cell (World.block_lt_of_cell? w _ hx157_0)).trans hx157_0
                              replace hx157_1 := (HB.out.cell (World.block_lt_of_cell? w _ hx157_1)).trans hx157_1
                              replace hx157_2 := (HB.out.cell (World.block_lt_of_cell? w _ hx157_2)).trans hx157_2
                              replace hx157_3 := (HB.out.cell (World.block_lt_of_cell? w _ hx157_3)).trans hx157_3
                              replace hx157_4 := (HB.out.cell (World.block_lt_of_cell? w _ hx157_4)).trans hx157_4
                              replace hx157_5 := (HB.out.cell (World.block_lt_of_cell? w _ hx157_5)).trans hx157_5
                              replace hx157_6 := (HB.out.cell (World.block_lt_of_cell? w _ hx157_6)).trans hx157_6
                              have HR157_4 := Aside0.mk hi157_4
                              have HC157_4 := Aside0.mk hl157_4
                              clear hi157_4 hl157_4
                              have HR157_5 := Aside0.mk hi157_5
                              have HC157_5 := Aside0.mk hl157_5
                              clear hi157_5 hl157_5
                              have HR157_6 := Aside0.mk hi157_6
                              have HC157_6 := Aside0.mk hl157_6
                              clear hi157_6 hl157_6
                              replace p157 := eq_true p157
                              replace q157 := eq_true q157
                              have ea_ := Option.some.inj (hx156_4.symm.trans hx157_4)
                              injection ea_ with ea_ en_ ec_
                              subst ea_
                              subst ec_
                              clear en_
                              have ea_ := Option.some.inj (hx156_5.symm.trans hx157_5)
                              injection ea_ with ea_ en_ ec_
                              subst ea_
                              subst ec_
                              clear en_
                              have ea_ := Option.some.inj (hx156_6.symm.trans hx157_6)
                              injection ea_ with ea_ en_ ec_
                              subst ea_
                              subst ec_
                              clear en_
                              have p158 : 0 ≤ (x6_4 : Int) := of_decide_eq_true (by first | (with_reducible assumption) | assumption)
                              have q158 : x6_4 < (((rd_T37 l0_0 x5_3).f6).length : Int) := of_decide_eq_true (by first | (with_reducible assumption) | assumption)
                              obtain ⟨ad158, A158_5, c158_5, e158, hx158_0, hx158_1, hx158_2, hx158_3, hx158_4, hx158_5, hl158_5, hi158_5⟩ := at_T40 HR157_6.out x6_4 p158 q158
                              cases e158
                              replace hx158_0 := (HB.out.cell (World.block_lt_of_cell? w _ hx158_0)).trans hx158_0
                              replace hx158_1 := (HB.out.cell (World.block_lt_of_cell? w _ hx158_1)).trans hx158_1
                              replace hx158_2 := (HB.out.cell (World.block_lt_of_cell? w _ hx158_2)).trans hx158_2
                              replace hx158_3 := (HB.out.cell (World.block_lt_of_cell? w _ hx158_3)).trans hx158_3
                              replace hx158_4 := (HB.out.cell (World.block_lt_of_cell? w _ hx158_4)).trans hx158_4
                              replace hx158_5 := (HB.out.cell (World.block_lt_of_cell? w _ hx158_5)).trans hx158_5
                              have HR158_5 := Aside0.mk hi158_5
                              have HC158_5 := Aside0.mk hl158_5
                              clear hi158_5 hl158_5
                              replace p158 := eq_true p158
                              replace q158 := eq_true q158
                              go_wp2_with (first | ((with_reducible refine gate_dst (N := 7) rfl ?_); refine box_event ?hg (N := 7) ?hd (cs := #[.string (⟨#[]⟩ : ByteArray), .string (⟨#[]⟩ : ByteArray), .bool false, .bool false, .int .i64 0, .slice none 0 0]) (t := 40) ?hr ?_; (case hd => rfl); (case hg => rfl); (case hr => first | (go_simp; done) | (go_simp; rfl)); intro gb159 hg w30 hbox hb; have n0_ := Aside0.mk (Kd.R_below (by (with_reducible repeat (first | apply Kd.R_alloc | apply Kd.R_drewN | apply Kd.R_drew)); exact HO_4.out) hb); have n1_ := Aside0.mk (blk_below (g := gb148) (o := .cells #[.slice (some ad156) l0_0.length c0_0, .slice A0_1 l0_1.length c0_1, .string a0_2, .string a0_3, .string a0_4] 27 (0, 0)) (by (with_reducible repeat (first | refine blk_drewN ?_ _ | refine blk_drew ?_ | refine blk_alloc ?_ _)); exact BK148.out) hb); have n2_ := Aside0.mk (below_step (by repeat (first | (with_reducible first | exact HB.out | apply below_alloc | apply pw_below_drewN | apply below_drew1 | refine below_set ?_ GE148.out) | exact HB.out)) hb); have n3_ := Aside0.mk (hbox); have n4_ := Aside0.mk ((by rw [hg]; exact (below_size (by repeat (first | (with_reducible first | exact HB.out | apply below_alloc | apply pw_below_drewN | apply below_drew1 | refine below_set ?_ GE148.out) | exact HB.out))) : w.heap.size ≤ gb159)); have n5_ := Aside0.mk ((by rw [hg]; exact (below_size (by repeat (first | (with_reducible first | exact HB.out | apply below_alloc | apply pw_below_drewN | apply below_drew1 | refine below_set ?_ GE148.out) | exact HB.out))) : w.heap.size ≤ gb159)); have n6_ := Aside0.mk ((by rw [hg]; exact Nat.ne_of_lt (blk_lt (g := gb148) (o := .cells #[.slice (some ad156) l0_0.length c0_0, .slice A0_1 l0_1.length c0_1, .string a0_2, .string a0_3, .string a0_4] 27 (0, 0)) (by (with_reducible repeat (first | refine blk_drewN ?_ _ | refine blk_drew ?_ | refine blk_alloc ?_ _)); exact BK148.out)) : gb148 ≠ gb159)); have n7_ := Aside0.mk ((by rw [hg]; exact Nat.ne_of_gt (blk_lt (g := gb148) (o := .cells #[.slice (some ad156) l0_0.length c0_0, .slice A0_1 l0_1.length c0_1, .string a0_2, .string a0_3, .string a0_4] 27 (0, 0)) (by (with_reducible repeat (first | refine blk_drewN ?_ _ | refine blk_drew ?_ | refine blk_alloc ?_ _)); exact BK148.out)) : gb159 ≠ gb148)); clear HO_4; clear BK148; clear HB; have HO_4 := n0_; have BK148 := n1_; have HB := n2_; have BK159 := n3_; have GW159 := n4_; have GE159 := n5_; have NB148_159 := n6_; have NB159_148 := n7_; clear n0_ n1_ n2_ n3_ n4_ n5_ n6_ n7_; clear hb hbox hg; have hnb31 := NB159_148.out; have hnc31 := NB148_159.out; have hcz32_0 : w30.cell? ⟨gb159, 0, none⟩ = some (.string (⟨#[]⟩ : ByteArray)) := (blk_cell BK159.out 0).trans rfl; have hcz32_1 : w30.cell? ⟨gb159, 1, none⟩ = some (.string (⟨#[]⟩ : ByteArray)) := (blk_cell BK159.out 1).trans rfl; have hcz32_2 : w30.cell? ⟨gb159, 2, none⟩ = some (.bool false) := (blk_cell BK159.out 2).trans rfl; have hcz32_3 : w30.cell? ⟨gb159, 3, none⟩ = some (.bool false) := (blk_cell BK159.out 3).trans rfl; have hcz32_4 : w30.cell? ⟨gb159, 4, none⟩ = some (.int .i64 0) := (blk_cell BK159.out 4).trans rfl; have hcz32_5 : w30.cell? ⟨gb159, 5, none⟩ = some (.slice none 0 0) := (blk_cell BK159.out 5).trans rfl; have hfz32_0 := blk_frozen BK159.out 0; have hfz32_1 := blk_frozen BK159.out 1; have hfz32_2 := blk_frozen BK159.out 2; have hfz32_3 := blk_frozen BK159.out 3; have hfz32_4 := blk_frozen BK159.out 4; have hfz32_5 := blk_frozen BK159.out 5))
                              repeat (go_quiet (first | ((with_reducible refine gate_dst (N := 7) rfl ?_); refine box_event ?hg (N := 7) ?hd (cs := #[.string (⟨#[]⟩ : ByteArray), .string (⟨#[]⟩ : ByteArray), .bool false, .bool false, .int .i64 0, .slice none 0 0]) (t := 40) ?hr ?_; (case hd => rfl); (case hg => rfl); (case hr => first | (go_simp; done) | (go_simp; rfl)); intro gb159 hg w30 hbox hb; have n0_ := Aside0.mk (Kd.R_below (by (with_reducible repeat (first | apply Kd.R_alloc | apply Kd.R_drewN | apply Kd.R_drew)); exact HO_4.out) hb); have n1_ := Aside0.mk (blk_below (g := gb148) (o := .cells #[.slice (some ad156) l0_0.length c0_0, .slice A0_1 l0_1.length c0_1, .string a0_2, .string a0_3, .string a0_4] 27 (0, 0)) (by (with_reducible repeat (first | refine blk_drewN ?_ _ | refine blk_drew ?_ | refine blk_alloc ?_ _)); exact BK148.out) hb); have n2_ := Aside0.mk (below_step (by repeat (first | (with_reducible first | exact HB.out | apply below_alloc | apply pw_below_drewN | apply below_drew1 | refine below_set ?_ GE148.out) | exact HB.out)) hb); have n3_ := Aside0.mk (hbox); have n4_ := Aside0.mk ((by rw [hg]; exact (below_size (by repeat (first | (with_reducible first | exact HB.out | apply below_alloc | apply pw_below_drewN | apply below_drew1 | refine below_set ?_ GE148.out) | exact HB.out))) : w.heap.size ≤ gb159)); have n5_ := Aside0.mk ((by rw [hg]; exact (below_size (by repeat (first | (with_reducible first | exact HB.out | apply below_alloc | apply pw_below_drewN | apply below_drew1 | refine below_set ?_ GE148.out) | exact HB.out))) : w.heap.size ≤ gb159)); have n6_ := Aside0.mk ((by rw [hg]; exact Nat.ne_of_lt (blk_lt (g := gb148) (o := .cells #[.slice (some ad156) l0_0.length c0_0, .slice A0_1 l0_1.length c0_1, .string a0_2, .string a0_3, .string a0_4] 27 (0, 0)) (by (with_reducible repeat (first | refine blk_drewN ?_ _ | refine blk_drew ?_ | refine blk_alloc ?_ _)); exact BK148.out)) : gb148 ≠ gb159)); have n7_ := Aside0.mk ((by rw [hg]; exact Nat.ne_of_gt (blk_lt (g := gb148) (o := .cells #[.slice (some ad156) l0_0.length c0_0, .slice A0_1 l0_1.length c0_1, .string a0_2, .string a0_3, .string a0_4] 27 (0, 0)) (by (with_reducible repeat (first | refine blk_drewN ?_ _ | refine blk_drew ?_ | refine blk_alloc ?_ _)); exact BK148.out)) : gb159 ≠ gb148)); clear HO_4; clear BK148; clear HB; have HO_4 := n0_; have BK148 := n1_; have HB := n2_; have BK159 := n3_; have GW159 := n4_; have GE159 := n5_; have NB148_159 := n6_; have NB159_148 := n7_; clear n0_ n1_ n2_ n3_ n4_ n5_ n6_ n7_; clear hb hbox hg; have hnb31 := NB159_148.out; have hnc31 := NB148_159.out; have hcz32_0 : w30.cell? ⟨gb159, 0, none⟩ = some (.string (⟨#[]⟩ : ByteArray)) := (blk_cell BK159.out 0).trans rfl; have hcz32_1 : w30.cell? ⟨gb159, 1, none⟩ = some (.string (⟨#[]⟩ : ByteArray)) := (blk_cell BK159.out 1).trans rfl; have hcz32_2 : w30.cell? ⟨gb159, 2, none⟩ = some (.bool false) := (blk_cell BK159.out 2).trans rfl; have hcz32_3 : w30.cell? ⟨gb159, 3, none⟩ = some (.bool false) := (blk_cell BK159.out 3).trans rfl; have hcz32_4 : w30.cell? ⟨gb159, 4, none⟩ = some (.int .i64 0) := (blk_cell BK159.out 4).trans rfl; have hcz32_5 : w30.cell? ⟨gb159, 5, none⟩ = some (.slice none 0 0) := (blk_cell BK159.out 5).trans rfl; have hfz32_0 := blk_frozen BK159.out 0; have hfz32_1 := blk_frozen BK159.out 1; have hfz32_2 := blk_frozen BK159.out 2; have hfz32_3 := blk_frozen BK159.out 3; have hfz32_4 := blk_frozen BK159.out 4; have hfz32_5 := blk_frozen BK159.out 5)); try go_wp2_with (first | ((with_reducible refine gate_dst (N := 7) rfl ?_); refine box_event ?hg (N := 7) ?hd (cs := #[.string (⟨#[]⟩ : ByteArray), .string (⟨#[]⟩ : ByteArray), .bool false, .bool false, .int .i64 0, .slice none 0 0]) (t := 40) ?hr ?_; (case hd => rfl); (case hg => rfl); (case hr => first | (go_simp; done) | (go_simp; rfl)); intro gb159 hg w30 hbox hb; have n0_ := Aside0.mk (Kd.R_below (by (with_reducible repeat (first | apply Kd.R_alloc | apply Kd.R_drewN | apply Kd.R_drew)); exact HO_4.out) hb); have n1_ := Aside0.mk (blk_below (g := gb148) (o := .cells #[.slice (some ad156) l0_0.length c0_0, .slice A0_1 l0_1.length c0_1, .string a0_2, .string a0_3, .string a0_4] 27 (0, 0)) (by (with_reducible repeat (first | refine blk_drewN ?_ _ | refine blk_drew ?_ | refine blk_alloc ?_ _)); exact BK148.out) hb); have n2_ := Aside0.mk (below_step (by repeat (first | (with_reducible first | exact HB.out | apply below_alloc | apply pw_below_drewN | apply below_drew1 | refine below_set ?_ GE148.out) | exact HB.out)) hb); have n3_ := Aside0.mk (hbox); have n4_ := Aside0.mk ((by rw [hg]; exact (below_size (by repeat (first | (with_reducible first | exact HB.out | apply below_alloc | apply pw_below_drewN | apply below_drew1 | refine below_set ?_ GE148.out) | exact HB.out))) : w.heap.size ≤ gb159)); have n5_ := Aside0.mk ((by rw [hg]; exact (below_size (by repeat (first | (with_reducible first | exact HB.out | apply below_alloc | apply pw_below_drewN | apply below_drew1 | refine below_set ?_ GE148.out) | exact HB.out))) : w.heap.size ≤ gb159)); have n6_ := Aside0.mk ((by rw [hg]; exact Nat.ne_of_lt (blk_lt (g := gb148) (o := .cells #[.slice (some ad156) l0_0.length c0_0, .slice A0_1 l0_1.length c0_1, .string a0_2, .string a0_3, .string a0_4] 27 (0, 0)) (by (with_reducible repeat (first | refine blk_drewN ?_ _ | refine blk_drew ?_ | refine blk_alloc ?_ _)); exact BK148.out)) : gb148 ≠ gb159)); have n7_ := Aside0.mk ((by rw [hg]; exact Nat.ne_of_gt (blk_lt (g := gb148) (o := .cells #[.slice (some ad156) l0_0.length c0_0, .slice A0_1 l0_1.length c0_1, .string a0_2, .string a0_3, .string a0_4] 27 (0, 0)) (by (with_reducible repeat (first | refine blk_drewN ?_ _ | refine blk_drew ?_ | refine blk_alloc ?_ _)); exact BK148.out)) : gb159 ≠ gb148)); clear HO_4; clear BK148; clear HB; have HO_4 := n0_; have BK148 := n1_; have HB := n2_; have BK159 := n3_; have GW159 := n4_; have GE159 := n5_; have NB148_159 := n6_; have NB159_148 := n7_; clear n0_ n1_ n2_ n3_ n4_ n5_ n6_ n7_; clear hb hbox hg; have hnb31 := NB159_148.out; have hnc31 := NB148_159.out; have hcz32_0 : w30.cell? ⟨gb159, 0, none⟩ = some (.string (⟨#[]⟩ : ByteArray)) := (blk_cell BK159.out 0).trans rfl; have hcz32_1 : w30.cell? ⟨gb159, 1, none⟩ = some (.string (⟨#[]⟩ : ByteArray)) := (blk_cell BK159.out 1).trans rfl; have hcz32_2 : w30.cell? ⟨gb159, 2, none⟩ = some (.bool false) := (blk_cell BK159.out 2).trans rfl; have hcz32_3 : w30.cell? ⟨gb159, 3, none⟩ = some (.bool false) := (blk_cell BK159.out 3).trans rfl; have hcz32_4 : w30.cell? ⟨gb159, 4, none⟩ = some (.int .i64 0) := (blk_cell BK159.out 4).trans rfl; have hcz32_5 : w30.cell? ⟨gb159, 5, none⟩ = some (.slice none 0 0) := (blk_cell BK159.out 5).trans rfl; have hfz32_0 := blk_frozen BK159.out 0; have hfz32_1 := blk_frozen BK159.out 1; have hfz32_2 := blk_frozen BK159.out 2; have hfz32_3 := blk_frozen BK159.out 3; have hfz32_4 := blk_frozen BK159.out 4; have hfz32_5 := blk_frozen BK159.out 5)))
                              go_loopg [8] k4 (fun kq v8 w' => ∃ (x8_5 : Int), v8 = .int .i64 x8_5 ∧ Aside0 (secateurtop_TopCodes.l2 kq x3_1 t153 x5_3 x6_4 x8_5 l0_0 l0_1 a0_2 a0_3 a0_4 ((rd_T40 ((rd_T37 l0_0 x5_3).f6) x6_4).f0) ((rd_T40 ((rd_T37 l0_0 x5_3).f6) x6_4).f1) ((rd_T40 ((rd_T37 l0_0 x5_3).f6) x6_4).f2) ((rd_T40 ((rd_T37 l0_0 x5_3).f6) x6_4).f3) ((rd_T40 ((rd_T37 l0_0 x5_3).f6) x6_4).f4) ((rd_T40 ((rd_T37 l0_0 x5_3).f6) x6_4).f5) = some r) ∧ Aside0 (kq ≤ k4) ∧ Aside0 (Kd.R Kd.string 9 w' w.heap.size (fun _ => True) v154 t153) ∧ Aside0 (w'.heap[gb148]? = some (.cells #[(.slice (some ad156) l0_0.length c0_0), (.slice A0_1 l0_1.length c0_1), .string a0_2, .string a0_3, .string a0_4] 27 (0, 0))) ∧ Aside0 (w'.heap[gb159]? = some (.cells #[.string ((rd_T40 ((rd_T37 l0_0 x5_3).f6) x6_4).f0), .string ((rd_T40 ((rd_T37 l0_0 x5_3).f6) x6_4).f1), .bool ((rd_T40 ((rd_T37 l0_0 x5_3).f6) x6_4).f2), .bool ((rd_T40 ((rd_T37 l0_0 x5_3).f6) x6_4).f3), .int .i64 ((rd_T40 ((rd_T37 l0_0 x5_3).f6) x6_4).f4), (.slice A158_5 ((rd_T40 ((rd_T37 l0_0 x5_3).f6) x6_4).f5).length c158_5)] 40 (0, 0))) ∧ Aside0 (Below w.heap.size w w'))
                              case atStart => exact ⟨(0), (by first | rfl | (simp; done) | (simp [*]; done) | (exfalso; simp only [beq_iff_eq] at *; omega)), H', ⟨Nat.le_refl _⟩, ⟨by (with_reducible repeat (first | apply Kd.R_alloc | apply Kd.R_drewN | apply Kd.R_drew)); exact Kd.R_mono (Kd.R_far (p := ⟨gb159, 5, none⟩) (Kd.R_far (p := ⟨gb159, 4, none⟩) (Kd.R_far (p := ⟨gb159, 3, none⟩) (Kd.R_far (p := ⟨gb159, 2, none⟩) (Kd.R_far (p := ⟨gb159, 1, none⟩) (Kd.R_far (p := ⟨gb159, 0, none⟩) (Kd.R_types HO_4.out BK159.out (by decide)) (fun _ hk => hk.2) (.string ((rd_T40 ((rd_T37 l0_0 x5_3).f6) x6_4).f0))) (fun _ hk => hk.2) (.string ((rd_T40 ((rd_T37 l0_0 x5_3).f6) x6_4).f1))) (fun _ hk => hk.2) (.bool ((rd_T40 ((rd_T37 l0_0 x5_3).f6) x6_4).f2))) (fun _ hk => hk.2) (.bool ((rd_T40 ((rd_T37 l0_0 x5_3).f6) x6_4).f3))) (fun _ hk => hk.2) (.int .i64 ((rd_T40 ((rd_T37 l0_0 x5_3).f6) x6_4).f4))) (fun _ hk => hk.2) (.slice A158_5 ((rd_T40 ((rd_T37 l0_0 x5_3).f6) x6_4).f5).length c158_5)) (fun _ hk => trivial)⟩, ⟨by (with_reducible repeat (first | refine blk_drewN ?_ _ | refine blk_drew ?_ | refine blk_alloc ?_ _)); refine blk_far ?_ NB148_159.out _; (with_reducible repeat (first | refine blk_drewN ?_ _ | refine blk_drew ?_ | refine blk_alloc ?_ _)); refine blk_far ?_ NB148_159.out _; (with_reducible repeat (first | refine blk_drewN ?_ _ | refine blk_drew ?_ | refine blk_alloc ?_ _)); refine blk_far ?_ NB148_159.out _; (with_reducible repeat (first | refine blk_drewN ?_ _ | refine blk_drew ?_ | refine blk_alloc ?_ _)); refine blk_far ?_ NB148_159.out _; (with_reducible repeat (first | refine blk_drewN ?_ _ | refine blk_drew ?_ | refine blk_alloc ?_ _)); refine blk_far ?_ NB148_159.out _; (with_reducible repeat (first | refine blk_drewN ?_ _ | refine blk_drew ?_ | refine blk_alloc ?_ _)); refine blk_far ?_ NB148_159.out _; (with_reducible repeat (first | refine blk_drewN ?_ _ | refine blk_drew ?_ | refine blk_alloc ?_ _)); exact BK148.out⟩, ⟨by (with_reducible repeat (first | refine blk_drewN ?_ _ | refine blk_drew ?_ | refine blk_alloc ?_ _)); refine blk_put (cs := #[.string ((rd_T40 ((rd_T37 l0_0 x5_3).f6) x6_4).f0), .string ((rd_T40 ((rd_T37 l0_0 x5_3).f6) x6_4).f1), .bool ((rd_T40 ((rd_T37 l0_0 x5_3).f6) x6_4).f2), .bool ((rd_T40 ((rd_T37 l0_0 x5_3).f6) x6_4).f3), .int .i64 ((rd_T40 ((rd_T37 l0_0 x5_3).f6) x6_4).f4), .slice none 0 0]) ?_ 5 _ rfl; (with_reducible repeat (first | refine blk_drewN ?_ _ | refine blk_drew ?_ | refine blk_alloc ?_ _)); refine blk_put (cs := #[.string ((rd_T40 ((rd_T37 l0_0 x5_3).f6) x6_4).f0), .string ((rd_T40 ((rd_T37 l0_0 x5_3).f6) x6_4).f1), .bool ((rd_T40 ((rd_T37 l0_0 x5_3).f6) x6_4).f2), .bool ((rd_T40 ((rd_T37 l0_0 x5_3).f6) x6_4).f3), .int .i64 0, .slice none 0 0]) ?_ 4 _ rfl; (with_reducible repeat (first | refine blk_drewN ?_ _ | refine blk_drew ?_ | refine blk_alloc ?_ _)); refine blk_put (cs := #[.string ((rd_T40 ((rd_T37 l0_0 x5_3).f6) x6_4).f0), .string ((rd_T40 ((rd_T37 l0_0 x5_3).f6) x6_4).f1), .bool ((rd_T40 ((rd_T37 l0_0 x5_3).f6) x6_4).f2), .bool false, .int .i64 0, .slice none 0 0]) ?_ 3 _ rfl; (with_reducible repeat (first | refine blk_drewN ?_ _ | refine blk_drew ?_ | refine blk_alloc ?_ _)); refine blk_put (cs := #[.string ((rd_T40 ((rd_T37 l0_0 x5_3).f6) x6_4).f0), .string ((rd_T40 ((rd_T37 l0_0 x5_3).f6) x6_4).f1), .bool false, .bool false, .int .i64 0, .slice none 0 0]) ?_ 2 _ rfl; (with_reducible repeat (first | refine blk_drewN ?_ _ | refine blk_drew ?_ | refine blk_alloc ?_ _)); refine blk_put (cs := #[.string ((rd_T40 ((rd_T37 l0_0 x5_3).f6) x6_4).f0), .string (⟨#[]⟩ : ByteArray), .bool false, .bool false, .int .i64 0, .slice none 0 0]) ?_ 1 _ rfl; (with_reducible repeat (first | refine blk_drewN ?_ _ | refine blk_drew ?_ | refine blk_alloc ?_ _)); refine blk_put (cs := #[.string (⟨#[]⟩ : ByteArray), .string (⟨#[]⟩ : ByteArray), .bool false, .bool false, .int .i64 0, .slice none 0 0]) ?_ 0 _ rfl; (with_reducible repeat (first | refine blk_drewN ?_ _ | refine blk_drew ?_ | refine blk_alloc ?_ _)); exact BK159.out⟩, ⟨by repeat (first | (with_reducible first | exact HB.out | apply below_alloc | apply pw_below_drewN | apply below_drew1 | refine below_set ?_ GE148.out | refine below_set ?_ GE159.out) | exact HB.out)⟩⟩
                              case round =>
                                clear H'
                                try clear c1
                                try clear p1
                                try clear q1
                                try clear hx1
                                try clear c2
                                try clear p2
                                try clear c3
                                try clear c5
                                try clear c5b0
                                try clear c5b1
                                try clear c11
                                try clear c15
                                try clear p15
                                try clear q15
                                try clear hx15
                                try clear c19
                                try clear c23
                                try clear c23b0
                                try clear c25
                                try clear c25b0
                                try clear c26
                                try clear c26b0
                                try clear c27
                                try clear c27b0
                                try clear c28
                                try clear c28b0
                                try clear c31
                                try clear hcz12_0
                                try clear hcz12_1
                                try clear hcz12_2
                                try clear hcz12_3
                                try clear hcz12_4
                                try clear hcz15_0
                                try clear hcz15_1
                                try clear hcz15_2
                                try clear hcz15_3
                                try clear hcz15_4
                                try clear hcz17_0
                                try clear hcz17_1
                                try clear hcz17_2
                                try clear hcz17_3
                                try clear hcz17_4
                                try clear hcz21_0
                                try clear hcz21_1
                                try clear hcz21_2
                                try clear hcz21_3
                                try clear hcz21_4
                                try clear hcz24_0
                                try clear hcz24_1
                                try clear hcz24_2
                                try clear hcz24_3
                                try clear hcz24_4
                                try clear hcz29_0
                                try clear hcz29_1
                                try clear hcz29_2
                                try clear hcz29_3
                                try clear hcz29_4
                                try clear hcz32_0
                                try clear hcz32_1
                                try clear hcz32_2
                                try clear hcz32_3
                                try clear hcz32_4
                                try clear hcz32_5
                                try clear hfz12_0
                                try clear hfz12_1
                                try clear hfz12_2
                                try clear hfz12_3
                                try clear hfz12_4
                                try clear hfz15_0
                                try clear hfz15_1
                                try clear hfz15_2
                                try clear hfz15_3
                                try clear hfz15_4
                                try clear hfz17_0
                                try clear hfz17_1
                                try clear hfz17_2
                                try clear hfz17_3
                                try clear hfz17_4
                                try clear hfz21_0
                                try clear hfz21_1
                                try clear hfz21_2
                                try clear hfz21_3
                                try clear hfz21_4
                                try clear hfz24_0
                                try clear hfz24_1
                                try clear hfz24_2
                                try clear hfz24_3
                                try clear hfz24_4
                                try clear hfz29_0
                                try clear hfz29_1
                                try clear hfz29_2
                                try clear hfz29_3
                                try clear hfz29_4
                                try clear hfz32_0
                                try clear hfz32_1
                                try clear hfz32_2
                                try clear hfz32_3
                                try clear hfz32_4
                                try clear hfz32_5
                                try clear hx156_0
                                try clear hx156_1
                                try clear hx156_2
                                try clear hx156_3
                                try clear hx156_4
                                try clear hx156_5
                                try clear hx156_6
                                try clear hx157_0
                                try clear hx157_1
                                try clear hx157_2
                                try clear hx157_3
                                try clear hx157_4
                                try clear hx157_5
                                try clear hx157_6
                                try clear hx158_0
                                try clear hx158_1
                                try clear hx158_2
                                try clear hx158_3
                                try clear hx158_4
                                try clear hx158_5
                                try clear p156
                                try clear p157
                                try clear p158
                                try clear p2
                                try clear q156
                                try clear q157
                                try clear q158
                                obtain ⟨x8_5, rfl, HA, HK5, HO_4, BK148, BK159, HB⟩ := hrel
                                cases gk with
                                | zero => exact absurd HA.out (by simp [secateurtop_TopCodes.l2])
                                | succ k5 =>
                                  have H := HA.out
                                  clear HA
                                  simp only [secateurtop_TopCodes.l2] at H
                                  by_cases c33 : x8_5 < (((rd_T40 ((rd_T37 l0_0 x5_3).f6) x6_4).f5).length : Int)
                                  · rw [if_pos c33] at H
                                    have c33b0 : decide (x8_5 < (((rd_T40 ((rd_T37 l0_0 x5_3).f6) x6_4).f5).length : Int)) = true := decide_eq_true c33
                                    clear c33
                                    by_cases c34 : 0 ≤ x8_5
                                    · rw [if_pos c34] at H
                                      have c34b0 : decide (0 ≤ x8_5) = true := decide_eq_true c34
                                      clear c34
                                      replace H := Option.bind_eq_some_iff.mp H
                                      obtain ⟨t161, A350, H⟩ := H
                                      replace H : (secateurtop_TopCodes.l3 k5 x3_1 t153 x5_3 x6_4 x8_5 t161 0 l0_0 l0_1 a0_2 a0_3 a0_4 ((rd_T40 ((rd_T37 l0_0 x5_3).f6) x6_4).f0) ((rd_T40 ((rd_T37 l0_0 x5_3).f6) x6_4).f1) ((rd_T40 ((rd_T37 l0_0 x5_3).f6) x6_4).f2) ((rd_T40 ((rd_T37 l0_0 x5_3).f6) x6_4).f3) ((rd_T40 ((rd_T37 l0_0 x5_3).f6) x6_4).f4) ((rd_T40 ((rd_T37 l0_0 x5_3).f6) x6_4).f5)) = some r := H
                                      have A35 := Aside0.mk A350
                                      clear A350
                                      have H' := Aside0.mk H
                                      clear H
                                      have hnb36 := NB159_148.out
                                      have hnc36 := NB148_159.out
                                      have hcz37_0 : wr.cell? ⟨gb159, 0, none⟩ = some (.string ((rd_T40 ((rd_T37 l0_0 x5_3).f6) x6_4).f0)) := (blk_cell BK159.out 0).trans rfl
                                      have hcz37_1 : wr.cell? ⟨gb159, 1, none⟩ = some (.string ((rd_T40 ((rd_T37 l0_0 x5_3).f6) x6_4).f1)) := (blk_cell BK159.out 1).trans rfl
                                      have hcz37_2 : wr.cell? ⟨gb159, 2, none⟩ = some (.bool ((rd_T40 ((rd_T37 l0_0 x5_3).f6) x6_4).f2)) := (blk_cell BK159.out 2).trans rfl
                                      have hcz37_3 : wr.cell? ⟨gb159, 3, none⟩ = some (.bool ((rd_T40 ((rd_T37 l0_0 x5_3).f6) x6_4).f3)) := (blk_cell BK159.out 3).trans rfl
                                      have hcz37_4 : wr.cell? ⟨gb159, 4, none⟩ = some (.int .i64 ((rd_T40 ((rd_T37 l0_0 x5_3).f6) x6_4).f4)) := (blk_cell BK159.out 4).trans rfl
                                      have hcz37_5 : wr.cell? ⟨gb159, 5, none⟩ = some (.slice A158_5 ((rd_T40 ((rd_T37 l0_0 x5_3).f6) x6_4).f5).length c158_5) := (blk_cell BK159.out 5).trans rfl
                                      have hfz37_0 := blk_frozen BK159.out 0
                                      have hfz37_1 := blk_frozen BK159.out 1
                                      have hfz37_2 := blk_frozen BK159.out 2
                                      have hfz37_3 := blk_frozen BK159.out 3
                                      have hfz37_4 := blk_frozen BK159.out 4
                                      have hfz37_5 := blk_frozen BK159.out 5
                                      have p160 : 0 ≤ (x8_5 : Int) := of_decide_eq_true (by first | (with_reducible assumption) | assumption)
                                      have q160 : x8_5 < (((rd_T40 ((rd_T37 l0_0 x5_3).f6) x6_4).f5).length : Int) := of_decide_eq_true (by first | (with_reducible assumption) | assumption)
                                      obtain ⟨ad160, A160_8, c160_8, e160, hx160_0, hx160_1, hx160_2, hx160_3, hx160_4, hx160_5, hx160_6, hx160_7, hx160_8, hl160_8, hi160_8⟩ := at_T44 HR158_5.out x8_5 p160 q160
                                      cases e160
                                      replace hx160_0 := (HB.out.cell (World.block_lt_of_cell? w _ hx160_0)).trans hx160_0
                                      replace hx160_1 := (HB.out.cell (World.block_lt_of_cell? w _ hx160_1)).trans hx160_1
                                      replace hx160_2 := (HB.out.cell (World.block_lt_of_cell? w _ hx160_2)).trans hx160_2
                                      replace hx160_3 := (HB.out.cell (World.block_lt_of_cell? w _ hx160_3)).trans hx160_3
                                      replace hx160_4 := (HB.out.cell (World.block_lt_of_cell? w _ hx160_4)).trans hx160_4
                                      replace hx160_5 := (HB.out.cell (World.block_lt_of_cell? w _ hx160_5)).trans hx160_5
                                      replace hx160_6 := (HB.out.cell (World.block_lt_of_cell? w _ hx160_6)).trans hx160_6
                                      replace hx160_7 := (HB.out.cell (World.block_lt_of_cell? w _ hx160_7)).trans hx160_7
                                      replace hx160_8 := (HB.out.cell (World.block_lt_of_cell? w _ hx160_8)).trans hx160_8
                                      have HR160_8 := Aside0.mk hi160_8
                                      have HC160_8 := Aside0.mk hl160_8
                                      clear hi160_8 hl160_8
                                      replace p160 := eq_true p160
                                      replace q160 := eq_true q160
                                      go_wp2_with (first | (go_at_call 13; (with_reducible refine (op_Uses.calls k5 ((rd_T44 ((rd_T40 ((rd_T37 l0_0 x5_3).f6) x6_4).f5) x8_5).f0) ((rd_T44 ((rd_T40 ((rd_T37 l0_0 x5_3).f6) x6_4).f5) x8_5).f1) ((rd_T44 ((rd_T40 ((rd_T37 l0_0 x5_3).f6) x6_4).f5) x8_5).f2) ((rd_T44 ((rd_T40 ((rd_T37 l0_0 x5_3).f6) x6_4).f5) x8_5).f3) ((rd_T44 ((rd_T40 ((rd_T37 l0_0 x5_3).f6) x6_4).f5) x8_5).f4) ((rd_T44 ((rd_T40 ((rd_T37 l0_0 x5_3).f6) x6_4).f5) x8_5).f5) ((rd_T44 ((rd_T40 ((rd_T37 l0_0 x5_3).f6) x6_4).f5) x8_5).f6) ((rd_T44 ((rd_T40 ((rd_T37 l0_0 x5_3).f6) x6_4).f5) x8_5).f7) _ _ ((rd_T44 ((rd_T40 ((rd_T37 l0_0 x5_3).f6) x6_4).f5) x8_5).f8) t161 _ ?side3 ?side1 ?side2 A35.out).mono ?_); (case side1 => repeat (first | exact (Kd.C_below HR160_8.out HB.out) | (with_reducible refine Kd.C_alloc ?_ _) | (with_reducible refine Kd.C_drewN ?_ _) | (with_reducible refine Kd.C_drew ?_))); (case side2 => exact HC160_8.out); (case side3 => repeat (first | exact (GW.below HG.out HB.out) | (with_reducible refine GW.alloc ?_ _) | (with_reducible refine GW.drewN ?_ _) | (with_reducible refine GW.drew ?_))); rintro e w38 ⟨v162, rfl, ho0, hb⟩; have n0_ := Aside0.mk (Kd.R_below (by (with_reducible repeat (first | apply Kd.R_alloc | apply Kd.R_drewN | apply Kd.R_drew)); exact HO_4.out) hb); have n1_ := Aside0.mk (Kd.R_lower ho0 (below_size (by repeat (first | (with_reducible first | exact HB.out | apply below_alloc | apply pw_below_drewN | apply below_drew1 | refine below_set ?_ GE148.out | refine below_set ?_ GE159.out) | exact HB.out)))); have n2_ := Aside0.mk (blk_below (g := gb148) (o := .cells #[.slice (some ad156) l0_0.length c0_0, .slice A0_1 l0_1.length c0_1, .string a0_2, .string a0_3, .string a0_4] 27 (0, 0)) (by (with_reducible repeat (first | refine blk_drewN ?_ _ | refine blk_drew ?_ | refine blk_alloc ?_ _)); exact BK148.out) hb); have n3_ := Aside0.mk (blk_below (g := gb159) (o := .cells #[.string ((rd_T40 ((rd_T37 l0_0 x5_3).f6) x6_4).f0), .string ((rd_T40 ((rd_T37 l0_0 x5_3).f6) x6_4).f1), .bool ((rd_T40 ((rd_T37 l0_0 x5_3).f6) x6_4).f2), .bool ((rd_T40 ((rd_T37 l0_0 x5_3).f6) x6_4).f3), .int .i64 ((rd_T40 ((rd_T37 l0_0 x5_3).f6) x6_4).f4), .slice (some ad160) ((rd_T40 ((rd_T37 l0_0 x5_3).f6) x6_4).f5).length c158_5] 40 (0, 0)) (by (with_reducible repeat (first | refine blk_drewN ?_ _ | refine blk_drew ?_ | refine blk_alloc ?_ _)); exact BK159.out) hb); have n4_ := Aside0.mk (below_step (by repeat (first | (with_reducible first | exact HB.out | apply below_alloc | apply pw_below_drewN | apply below_drew1 | refine below_set ?_ GE148.out | refine below_set ?_ GE159.out) | exact HB.out)) hb); clear HO_4; clear BK148; clear BK159; clear HB; have HO_4 := n0_; have HO163 := n1_; have BK148 := n2_; have BK159 := n3_; have HB := n4_; clear n0_ n1_ n2_ n3_ n4_; (try clear hb); (try clear hb2); (try clear hk); (try clear hi); (try clear ho0)))
                                      repeat (go_quiet (first | (go_at_call 13; (with_reducible refine (op_Uses.calls k5 ((rd_T44 ((rd_T40 ((rd_T37 l0_0 x5_3).f6) x6_4).f5) x8_5).f0) ((rd_T44 ((rd_T40 ((rd_T37 l0_0 x5_3).f6) x6_4).f5) x8_5).f1) ((rd_T44 ((rd_T40 ((rd_T37 l0_0 x5_3).f6) x6_4).f5) x8_5).f2) ((rd_T44 ((rd_T40 ((rd_T37 l0_0 x5_3).f6) x6_4).f5) x8_5).f3) ((rd_T44 ((rd_T40 ((rd_T37 l0_0 x5_3).f6) x6_4).f5) x8_5).f4) ((rd_T44 ((rd_T40 ((rd_T37 l0_0 x5_3).f6) x6_4).f5) x8_5).f5) ((rd_T44 ((rd_T40 ((rd_T37 l0_0 x5_3).f6) x6_4).f5) x8_5).f6) ((rd_T44 ((rd_T40 ((rd_T37 l0_0 x5_3).f6) x6_4).f5) x8_5).f7) _ _ ((rd_T44 ((rd_T40 ((rd_T37 l0_0 x5_3).f6) x6_4).f5) x8_5).f8) t161 _ ?side3 ?side1 ?side2 A35.out).mono ?_); (case side1 => repeat (first | exact (Kd.C_below HR160_8.out HB.out) | (with_reducible refine Kd.C_alloc ?_ _) | (with_reducible refine Kd.C_drewN ?_ _) | (with_reducible refine Kd.C_drew ?_))); (case side2 => exact HC160_8.out); (case side3 => repeat (first | exact (GW.below HG.out HB.out) | (with_reducible refine GW.alloc ?_ _) | (with_reducible refine GW.drewN ?_ _) | (with_reducible refine GW.drew ?_))); rintro e w38 ⟨v162, rfl, ho0, hb⟩; have n0_ := Aside0.mk (Kd.R_below (by (with_reducible repeat (first | apply Kd.R_alloc | apply Kd.R_drewN | apply Kd.R_drew)); exact HO_4.out) hb); have n1_ := Aside0.mk (Kd.R_lower ho0 (below_size (by repeat (first | (with_reducible first | exact HB.out | apply below_alloc | apply pw_below_drewN | apply below_drew1 | refine below_set ?_ GE148.out | refine below_set ?_ GE159.out) | exact HB.out)))); have n2_ := Aside0.mk (blk_below (g := gb148) (o := .cells #[.slice (some ad156) l0_0.length c0_0, .slice A0_1 l0_1.length c0_1, .string a0_2, .string a0_3, .string a0_4] 27 (0, 0)) (by (with_reducible repeat (first | refine blk_drewN ?_ _ | refine blk_drew ?_ | refine blk_alloc ?_ _)); exact BK148.out) hb); have n3_ := Aside0.mk (blk_below (g := gb159) (o := .cells #[.string ((rd_T40 ((rd_T37 l0_0 x5_3).f6) x6_4).f0), .string ((rd_T40 ((rd_T37 l0_0 x5_3).f6) x6_4).f1), .bool ((rd_T40 ((rd_T37 l0_0 x5_3).f6) x6_4).f2), .bool ((rd_T40 ((rd_T37 l0_0 x5_3).f6) x6_4).f3), .int .i64 ((rd_T40 ((rd_T37 l0_0 x5_3).f6) x6_4).f4), .slice (some ad160) ((rd_T40 ((rd_T37 l0_0 x5_3).f6) x6_4).f5).length c158_5] 40 (0, 0)) (by (with_reducible repeat (first | refine blk_drewN ?_ _ | refine blk_drew ?_ | refine blk_alloc ?_ _)); exact BK159.out) hb); have n4_ := Aside0.mk (below_step (by repeat (first | (with_reducible first | exact HB.out | apply below_alloc | apply pw_below_drewN | apply below_drew1 | refine below_set ?_ GE148.out | refine below_set ?_ GE159.out) | exact HB.out)) hb); clear HO_4; clear BK148; clear BK159; clear HB; have HO_4 := n0_; have HO163 := n1_; have BK148 := n2_; have BK159 := n3_; have HB := n4_; clear n0_ n1_ n2_ n3_ n4_; (try clear hb); (try clear hb2); (try clear hk); (try clear hi); (try clear ho0))); try go_wp2_with (first | (go_at_call 13; (with_reducible refine (op_Uses.calls k5 ((rd_T44 ((rd_T40 ((rd_T37 l0_0 x5_3).f6) x6_4).f5) x8_5).f0) ((rd_T44 ((rd_T40 ((rd_T37 l0_0 x5_3).f6) x6_4).f5) x8_5).f1) ((rd_T44 ((rd_T40 ((rd_T37 l0_0 x5_3).f6) x6_4).f5) x8_5).f2) ((rd_T44 ((rd_T40 ((rd_T37 l0_0 x5_3).f6) x6_4).f5) x8_5).f3) ((rd_T44 ((rd_T40 ((rd_T37 l0_0 x5_3).f6) x6_4).f5) x8_5).f4) ((rd_T44 ((rd_T40 ((rd_T37 l0_0 x5_3).f6) x6_4).f5) x8_5).f5) ((rd_T44 ((rd_T40 ((rd_T37 l0_0 x5_3).f6) x6_4).f5) x8_5).f6) ((rd_T44 ((rd_T40 ((rd_T37 l0_0 x5_3).f6) x6_4).f5) x8_5).f7) _ _ ((rd_T44 ((rd_T40 ((rd_T37 l0_0 x5_3).f6) x6_4).f5) x8_5).f8) t161 _ ?side3 ?side1 ?side2 A35.out).mono ?_); (case side1 => repeat (first | exact (Kd.C_below HR160_8.out HB.out) | (with_reducible refine Kd.C_alloc ?_ _) | (with_reducible refine Kd.C_drewN ?_ _) | (with_reducible refine Kd.C_drew ?_))); (case side2 => exact HC160_8.out); (case side3 => repeat (first | exact (GW.below HG.out HB.out) | (with_reducible refine GW.alloc ?_ _) | (with_reducible refine GW.drewN ?_ _) | (with_reducible refine GW.drew ?_))); rintro e w38 ⟨v162, rfl, ho0, hb⟩; have n0_ := Aside0.mk (Kd.R_below (by (with_reducible repeat (first | apply Kd.R_alloc | apply Kd.R_drewN | apply Kd.R_drew)); exact HO_4.out) hb); have n1_ := Aside0.mk (Kd.R_lower ho0 (below_size (by repeat (first | (with_reducible first | exact HB.out | apply below_alloc | apply pw_below_drewN | apply below_drew1 | refine below_set ?_ GE148.out | refine below_set ?_ GE159.out) | exact HB.out)))); have n2_ := Aside0.mk (blk_below (g := gb148) (o := .cells #[.slice (some ad156) l0_0.length c0_0, .slice A0_1 l0_1.length c0_1, .string a0_2, .string a0_3, .string a0_4] 27 (0, 0)) (by (with_reducible repeat (first | refine blk_drewN ?_ _ | refine blk_drew ?_ | refine blk_alloc ?_ _)); exact BK148.out) hb); have n3_ := Aside0.mk (blk_below (g := gb159) (o := .cells #[.string ((rd_T40 ((rd_T37 l0_0 x5_3).f6) x6_4).f0), .string ((rd_T40 ((rd_T37 l0_0 x5_3).f6) x6_4).f1), .bool ((rd_T40 ((rd_T37 l0_0 x5_3).f6) x6_4).f2), .bool ((rd_T40 ((rd_T37 l0_0 x5_3).f6) x6_4).f3), .int .i64 ((rd_T40 ((rd_T37 l0_0 x5_3).f6) x6_4).f4), .slice (some ad160) ((rd_T40 ((rd_T37 l0_0 x5_3).f6) x6_4).f5).length c158_5] 40 (0, 0)) (by (with_reducible repeat (first | refine blk_drewN ?_ _ | refine blk_drew ?_ | refine blk_alloc ?_ _)); exact BK159.out) hb); have n4_ := Aside0.mk (below_step (by repeat (first | (with_reducible first | exact HB.out | apply below_alloc | apply pw_below_drewN | apply below_drew1 | refine below_set ?_ GE148.out | refine below_set ?_ GE159.out) | exact HB.out)) hb); clear HO_4; clear BK148; clear BK159; clear HB; have HO_4 := n0_; have HO163 := n1_; have BK148 := n2_; have BK159 := n3_; have HB := n4_; clear n0_ n1_ n2_ n3_ n4_; (try clear hb); (try clear hb2); (try clear hk); (try clear hi); (try clear ho0))))
                                      go_loopg [10] k5 (fun kq v10 w' => ∃ (x10_6 : Int), v10 = .int .i64 x10_6 ∧ Aside0 (secateurtop_TopCodes.l3 kq x3_1 t153 x5_3 x6_4 x8_5 t161 x10_6 l0_0 l0_1 a0_2 a0_3 a0_4 ((rd_T40 ((rd_T37 l0_0 x5_3).f6) x6_4).f0) ((rd_T40 ((rd_T37 l0_0 x5_3).f6) x6_4).f1) ((rd_T40 ((rd_T37 l0_0 x5_3).f6) x6_4).f2) ((rd_T40 ((rd_T37 l0_0 x5_3).f6) x6_4).f3) ((rd_T40 ((rd_T37 l0_0 x5_3).f6) x6_4).f4) ((rd_T40 ((rd_T37 l0_0 x5_3).f6) x6_4).f5) = some r) ∧ Aside0 (kq ≤ k5) ∧ Aside0 (Kd.R Kd.string 9 w' w.heap.size (fun _ => True) v154 t153) ∧ Aside0 (Kd.R (Kd.int .i64) 3 w' w.heap.size (fun _ => True) v162 t161) ∧ Aside0 (w'.heap[gb148]? = some (.cells #[(.slice (some ad156) l0_0.length c0_0), (.slice A0_1 l0_1.length c0_1), .string a0_2, .string a0_3, .string a0_4] 27 (0, 0))) ∧ Aside0 (w'.heap[gb159]? = some (.cells #[.string ((rd_T40 ((rd_T37 l0_0 x5_3).f6) x6_4).f0), .string ((rd_T40 ((rd_T37 l0_0 x5_3).f6) x6_4).f1), .bool ((rd_T40 ((rd_T37 l0_0 x5_3).f6) x6_4).f2), .bool ((rd_T40 ((rd_T37 l0_0 x5_3).f6) x6_4).f3), .int .i64 ((rd_T40 ((rd_T37 l0_0 x5_3).f6) x6_4).f4), (.slice (some ad160) ((rd_T40 ((rd_T37 l0_0 x5_3).f6) x6_4).f5).length c158_5)] 40 (0, 0))) ∧ Aside0 (Below w.heap.size w w'))
                                      case atStart => exact ⟨(0), (by first | rfl | (simp; done) | (simp [*]; done) | (exfalso; simp only [beq_iff_eq] at *; omega)), H', ⟨Nat.le_refl _⟩, ⟨by (with_reducible repeat (first | apply Kd.R_alloc | apply Kd.R_drewN | apply Kd.R_drew)); exact HO_4.out⟩, ⟨by (with_reducible repeat (first | apply Kd.R_alloc | apply Kd.R_drewN | apply Kd.R_drew)); exact HO163.out⟩, ⟨by (with_reducible repeat (first | refine blk_drewN ?_ _ | refine blk_drew ?_ | refine blk_alloc ?_ _)); exact BK148.out⟩, ⟨by (with_reducible repeat (first | refine blk_drewN ?_ _ | refine blk_drew ?_ | refine blk_alloc ?_ _)); exact BK159.out⟩, ⟨by repeat (first | (with_reducible first | exact HB.out | apply below_alloc | apply pw_below_drewN | apply below_drew1 | refine below_set ?_ GE148.out | refine below_set ?_ GE159.out) | exact HB.out)⟩⟩
                                      case round =>
                                        clear H'
                                        try clear c1
                                        try clear p1
                                        try clear q1
                                        try clear hx1
                                        try clear c2
                                        try clear p2
                                        try clear c3
                                        try clear c5
                                        try clear c5b0
                                        try clear c5b1
                                        try clear c11
                                        try clear c15
                                        try clear p15
                                        try clear q15
                                        try clear hx15
                                        try clear c16
                                        try clear p16
                                        try clear q16
                                        try clear hx16
                                        try clear c19
                                        try clear c23
                                        try clear c23b0
                                        try clear c25
                                        try clear c25b0
                                        try clear c26
                                        try clear c26b0
                                        try clear c27
                                        try clear c27b0
                                        try clear c28
                                        try clear c28b0
                                        try clear c31
                                        try clear c33
                                        try clear c33b0
                                        try clear c34
                                        try clear c34b0
                                        try clear c36
                                        try clear hcz12_0
                                        try clear hcz12_1
                                        try clear hcz12_2
                                        try clear hcz12_3
                                        try clear hcz12_4
                                        try clear hcz15_0
                                        try clear hcz15_1
                                        try clear hcz15_2
                                        try clear hcz15_3
                                        try clear hcz15_4
                                        try clear hcz17_0
                                        try clear hcz17_1
                                        try clear hcz17_2
                                        try clear hcz17_3
                                        try clear hcz17_4
                                        try clear hcz21_0
                                        try clear hcz21_1
                                        try clear hcz21_2
                                        try clear hcz21_3
                                        try clear hcz21_4
                                        try clear hcz24_0
                                        try clear hcz24_1
                                        try clear hcz24_2
                                        try clear hcz24_3
                                        try clear hcz24_4
                                        try clear hcz29_0
                                        try clear hcz29_1
                                        try clear hcz29_2
                                        try clear hcz29_3
                                        try clear hcz29_4
                                        try clear hcz32_0
                                        try clear hcz32_1
                                        try clear hcz32_2
                                        try clear hcz32_3
                                        try clear hcz32_4
                                        try clear hcz32_5
                                        try clear hcz37_0
                                        try clear hcz37_1
                                        try clear hcz37_2
                                        try clear hcz37_3
                                        try clear hcz37_4
                                        try clear hcz37_5
                                        try clear hfz12_0
                                        try clear hfz12_1
                                        try clear hfz12_2
                                        try clear hfz12_3
                                        try clear hfz12_4
                                        try clear hfz15_0
                                        try clear hfz15_1
                                        try clear hfz15_2
                                        try clear hfz15_3
                                        try clear hfz15_4
                                        try clear hfz17_0
                                        try clear hfz17_1
                                        try clear hfz17_2
                                        try clear hfz17_3
                                        try clear hfz17_4
                                        try clear hfz21_0
                                        try clear hfz21_1
                                        try clear hfz21_2
                                        try clear hfz21_3
                                        try clear hfz21_4
                                        try clear hfz24_0
                                        try clear hfz24_1
                                        try clear hfz24_2
                                        try clear hfz24_3
                                        try clear hfz24_4
                                        try clear hfz29_0
                                        try clear hfz29_1
                                        try clear hfz29_2
                                        try clear hfz29_3
                                        try clear hfz29_4
                                        try clear hfz32_0
                                        try clear hfz32_1
                                        try clear hfz32_2
                                        try clear hfz32_3
                                        try clear hfz32_4
                                        try clear hfz32_5
                                        try clear hfz37_0
                                        try clear hfz37_1
                                        try clear hfz37_2
                                        try clear hfz37_3
                                        try clear hfz37_4
                                        try clear hfz37_5
                                        try clear hx156_0
                                        try clear hx156_1
                                        try clear hx156_2
                                        try clear hx156_3
                                        try clear hx156_4
                                        try clear hx156_5
                                        try clear hx156_6
                                        try clear hx157_0
                                        try clear hx157_1
                                        try clear hx157_2
                                        try clear hx157_3
                                        try clear hx157_4
                                        try clear hx157_5
                                        try clear hx157_6
                                        try clear hx158_0
                                        try clear hx158_1
                                        try clear hx158_2
                                        try clear hx158_3
                                        try clear hx158_4
                                        try clear hx158_5
                                        try clear hx160_0
                                        try clear hx160_1
                                        try clear hx160_2
                                        try clear hx160_3
                                        try clear hx160_4
                                        try clear hx160_5
                                        try clear hx160_6
                                        try clear hx160_7
                                        try clear hx160_8
                                        try clear p1
                                        try clear p15
                                        try clear p156
                                        try clear p157
                                        try clear p158
                                        try clear p160
                                        try clear p2
                                        try clear q1
                                        try clear q15
                                        try clear q156
                                        try clear q157
                                        try clear q158
                                        try clear q160
                                        obtain ⟨x10_6, rfl, HA, HK6, HO_4, HO_9, BK148, BK159, HB⟩ := hrel
                                        cases gk with
                                        | zero => exact absurd HA.out (by simp [secateurtop_TopCodes.l3])
                                        | succ k6 =>
                                          have H := HA.out
                                          clear HA
                                          simp only [secateurtop_TopCodes.l3] at H
                                          by_cases c39 : x10_6 < (t161.length : Int)
                                          · rw [if_pos c39] at H
                                            have c39b0 : decide (x10_6 < (t161.length : Int)) = true := decide_eq_true c39
                                            clear c39
                                            by_cases c40 : 0 ≤ x10_6
                                            · rw [if_pos c40] at H
                                              have c40b0 : decide (0 ≤ x10_6) = true := decide_eq_true c40
                                              clear c40
                                              by_cases c41 : (rd t161 x10_6) < 0
                                              · rw [if_pos c41] at H
                                                have c41b0 : decide ((rd t161 x10_6) < 0) = true := decide_eq_true c41
                                                clear c41
                                                obtain rfl := Option.some.inj H
                                                cases HRT.out
                                              · rw [if_neg c41] at H
                                                have c41b0 : decide ((rd t161 x10_6) < 0) = false := decide_eq_false c41
                                                clear c41
                                                by_cases c42 : (rd t161 x10_6) ≥ ((rd_T40 ((rd_T37 l0_0 x5_3).f6) x6_4).f4)
                                                · rw [if_pos c42] at H
                                                  have c42b0 : decide (((rd_T40 ((rd_T37 l0_0 x5_3).f6) x6_4).f4) ≤ (rd t161 x10_6)) = true := decide_eq_true c42
                                                  clear c42
                                                  obtain rfl := Option.some.inj H
                                                  cases HRT.out
                                                · rw [if_neg c42] at H
                                                  have c42b0 : decide (((rd_T40 ((rd_T37 l0_0 x5_3).f6) x6_4).f4) ≤ (rd t161 x10_6)) = false := decide_eq_false c42
                                                  clear c42
                                                  have H' := Aside0.mk H
                                                  clear H
                                                  obtain ⟨Ao43, co43, eo43⟩ := Kd.R_slice HO_9.out
                                                  subst eo43
                                                  have p164 : 0 ≤ (x10_6 : Int) := of_decide_eq_true (by first | (with_reducible assumption) | assumption)
                                                  have q164 : x10_6 < (t161.length : Int) := of_decide_eq_true (by first | (with_reducible assumption) | assumption)
                                                  obtain ⟨ad164, e164, hx164_0⟩ := Kd.at_int (Kd.R_reads' HO_9.out).2.2 x10_6 p164 q164
                                                  cases e164
                                                  replace p164 := eq_true p164
                                                  replace q164 := eq_true q164
                                                  have p165 : 0 ≤ (x10_6 : Int) := of_decide_eq_true (by first | (with_reducible assumption) | assumption)
                                                  have q165 : x10_6 < (t161.length : Int) := of_decide_eq_true (by first | (with_reducible assumption) | assumption)
                                                  obtain ⟨ad165, e165, hx165_0⟩ := Kd.at_int (Kd.R_reads' HO_9.out).2.2 x10_6 p165 q165
                                                  obtain rfl : ad164 = ad165 := (by injection e165)
                                                  replace p165 := eq_true p165
                                                  replace q165 := eq_true q165
                                                  have hnb44 := NB159_148.out
                                                  have hnc44 := NB148_159.out
                                                  have hcz45_0 : wr.cell? ⟨gb159, 0, none⟩ = some (.string ((rd_T40 ((rd_T37 l0_0 x5_3).f6) x6_4).f0)) := (blk_cell BK159.out 0).trans rfl
                                                  have hcz45_1 : wr.cell? ⟨gb159, 1, none⟩ = some (.string ((rd_T40 ((rd_T37 l0_0 x5_3).f6) x6_4).f1)) := (blk_cell BK159.out 1).trans rfl
                                                  have hcz45_2 : wr.cell? ⟨gb159, 2, none⟩ = some (.bool ((rd_T40 ((rd_T37 l0_0 x5_3).f6) x6_4).f2)) := (blk_cell BK159.out 2).trans rfl
                                                  have hcz45_3 : wr.cell? ⟨gb159, 3, none⟩ = some (.bool ((rd_T40 ((rd_T37 l0_0 x5_3).f6) x6_4).f3)) := (blk_cell BK159.out 3).trans rfl
                                                  have hcz45_4 : wr.cell? ⟨gb159, 4, none⟩ = some (.int .i64 ((rd_T40 ((rd_T37 l0_0 x5_3).f6) x6_4).f4)) := (blk_cell BK159.out 4).trans rfl
                                                  have hcz45_5 : wr.cell? ⟨gb159, 5, none⟩ = some (.slice (some ad160) ((rd_T40 ((rd_T37 l0_0 x5_3).f6) x6_4).f5).length c158_5) := (blk_cell BK159.out 5).trans rfl
                                                  have hfz45_0 := blk_frozen BK159.out 0
                                                  have hfz45_1 := blk_frozen BK159.out 1
                                                  have hfz45_2 := blk_frozen BK159.out 2
                                                  have hfz45_3 := blk_frozen BK159.out 3
                                                  have hfz45_4 := blk_frozen BK159.out 4
                                                  have hfz45_5 := blk_frozen BK159.out 5
                                                  go_wp2
                                                  repeat (go_quiet (fail); try go_wp2)
                                                  go_roundg k6
                                                  case measure => have := HJ1.out; have := HJ8.out; have := HK3.out; have := HK4.out; have := HK5.out; have := HK6.out; omega
                                                  case rel => exact ⟨(wrap64 (x10_6 + 1)), (by first | rfl | (simp; done) | (simp [*]; done) | (exfalso; simp only [beq_iff_eq] at *; omega)), H', ⟨by have := HJ1.out; have := HJ8.out; have := HK3.out; have := HK4.out; have := HK5.out; have := HK6.out; omega⟩, ⟨by (with_reducible repeat (first | apply Kd.R_alloc | apply Kd.R_drewN | apply Kd.R_drew)); exact HO_4.out⟩, ⟨by (with_reducible repeat (first | apply Kd.R_alloc | apply Kd.R_drewN | apply Kd.R_drew)); exact HO_9.out⟩, ⟨by (with_reducible repeat (first | refine blk_drewN ?_ _ | refine blk_drew ?_ | refine blk_alloc ?_ _)); exact BK148.out⟩, ⟨by (with_reducible repeat (first | refine blk_drewN ?_ _ | refine blk_drew ?_ | refine blk_alloc ?_ _)); exact BK159.out⟩, ⟨by repeat (first | (with_reducible first | exact HB.out | apply below_alloc | apply pw_below_drewN | apply below_drew1 | refine below_set ?_ GE148.out | refine below_set ?_ GE159.out) | exact HB.out)⟩⟩
                                            · rw [if_neg c40] at H
                                              exact absurd H (by simp)
                                          · rw [if_neg c39] at H
                                            have c39b0 : decide (x10_6 < (t161.length : Int)) = false := decide_eq_false c39
                                            clear c39
                                            by_cases c46 : 0 ≤ x8_5
                                            · rw [if_pos c46] at H
                                              have c46b0 : decide (0 ≤ x8_5) = true := decide_eq_true c46
                                              clear c46
                                              by_cases c47 : x8_5 < (((rd_T40 ((rd_T37 l0_0 x5_3).f6) x6_4).f5).length : Int)
                                              · rw [if_pos c47] at H
                                                have c47b0 : decide (x8_5 < (((rd_T40 ((rd_T37 l0_0 x5_3).f6) x6_4).f5).length : Int)) = true := decide_eq_true c47
                                                clear c47
                                                replace H := Option.bind_eq_some_iff.mp H
                                                obtain ⟨⟨t167, t168⟩, A480, H⟩ := H
                                                replace H : (if t168 = true then (if t167 < 0 then (secateurtop_TopCodes.j6 k6 x3_1 t153 x5_3 x6_4 x8_5 true l0_0 l0_1 a0_2 a0_3 a0_4 ((rd_T40 ((rd_T37 l0_0 x5_3).f6) x6_4).f0) ((rd_T40 ((rd_T37 l0_0 x5_3).f6) x6_4).f1) ((rd_T40 ((rd_T37 l0_0 x5_3).f6) x6_4).f2) ((rd_T40 ((rd_T37 l0_0 x5_3).f6) x6_4).f3) ((rd_T40 ((rd_T37 l0_0 x5_3).f6) x6_4).f4) ((rd_T40 ((rd_T37 l0_0 x5_3).f6) x6_4).f5)) else (secateurtop_TopCodes.j6 k6 x3_1 t153 x5_3 x6_4 x8_5 (decide (t167 ≥ ((rd_T40 ((rd_T37 l0_0 x5_3).f6) x6_4).f4))) l0_0 l0_1 a0_2 a0_3 a0_4 ((rd_T40 ((rd_T37 l0_0 x5_3).f6) x6_4).f0) ((rd_T40 ((rd_T37 l0_0 x5_3).f6) x6_4).f1) ((rd_T40 ((rd_T37 l0_0 x5_3).f6) x6_4).f2) ((rd_T40 ((rd_T37 l0_0 x5_3).f6) x6_4).f3) ((rd_T40 ((rd_T37 l0_0 x5_3).f6) x6_4).f4) ((rd_T40 ((rd_T37 l0_0 x5_3).f6) x6_4).f5))) else (secateurtop_TopCodes.j6 k6 x3_1 t153 x5_3 x6_4 x8_5 false l0_0 l0_1 a0_2 a0_3 a0_4 ((rd_T40 ((rd_T37 l0_0 x5_3).f6) x6_4).f0) ((rd_T40 ((rd_T37 l0_0 x5_3).f6) x6_4).f1) ((rd_T40 ((rd_T37 l0_0 x5_3).f6) x6_4).f2) ((rd_T40 ((rd_T37 l0_0 x5_3).f6) x6_4).f3) ((rd_T40 ((rd_T37 l0_0 x5_3).f6) x6_4).f4) ((rd_T40 ((rd_T37 l0_0 x5_3).f6) x6_4).f5))) = some r := H
                                                have A48 := Aside0.mk A480
                                                clear A480
                                                have HC49 := Aside0.mk H
                                                clear H
                                                obtain ⟨Ao50, co50, eo50⟩ := Kd.R_slice HO_9.out
                                                subst eo50
                                                have hnb51 := NB159_148.out
                                                have hnc51 := NB148_159.out
                                                have hcz52_0 : wr.cell? ⟨gb159, 0, none⟩ = some (.string ((rd_T40 ((rd_T37 l0_0 x5_3).f6) x6_4).f0)) := (blk_cell BK159.out 0).trans rfl
                                                have hcz52_1 : wr.cell? ⟨gb159, 1, none⟩ = some (.string ((rd_T40 ((rd_T37 l0_0 x5_3).f6) x6_4).f1)) := (blk_cell BK159.out 1).trans rfl
                                                have hcz52_2 : wr.cell? ⟨gb159, 2, none⟩ = some (.bool ((rd_T40 ((rd_T37 l0_0 x5_3).f6) x6_4).f2)) := (blk_cell BK159.out 2).trans rfl
                                                have hcz52_3 : wr.cell? ⟨gb159, 3, none⟩ = some (.bool ((rd_T40 ((rd_T37 l0_0 x5_3).f6) x6_4).f3)) := (blk_cell BK159.out 3).trans rfl
                                                have hcz52_4 : wr.cell? ⟨gb159, 4, none⟩ = some (.int .i64 ((rd_T40 ((rd_T37 l0_0 x5_3).f6) x6_4).f4)) := (blk_cell BK159.out 4).trans rfl
                                                have hcz52_5 : wr.cell? ⟨gb159, 5, none⟩ = some (.slice (some ad160) ((rd_T40 ((rd_T37 l0_0 x5_3).f6) x6_4).f5).length c158_5) := (blk_cell BK159.out 5).trans rfl
                                                have hfz52_0 := blk_frozen BK159.out 0
                                                have hfz52_1 := blk_frozen BK159.out 1
                                                have hfz52_2 := blk_frozen BK159.out 2
                                                have hfz52_3 := blk_frozen BK159.out 3
                                                have hfz52_4 := blk_frozen BK159.out 4
                                                have hfz52_5 := blk_frozen BK159.out 5
                                                have p166 : 0 ≤ (x8_5 : Int) := of_decide_eq_true (by first | (with_reducible assumption) | assumption)
                                                have q166 : x8_5 < (((rd_T40 ((rd_T37 l0_0 x5_3).f6) x6_4).f5).length : Int) := of_decide_eq_true (by first | (with_reducible assumption) | assumption)
                                                obtain ⟨ad166, A166_8, c166_8, e166, hx166_0, hx166_1, hx166_2, hx166_3, hx166_4, hx166_5, hx166_6, hx166_7, hx166_8, hl166_8, hi166_8⟩ := at_T44 HR158_5.out x8_5 p166 q166
                                                obtain rfl : ad160 = ad166 := (by injection e166)
                                                replace hx166_0 := (HB.out.cell (World.block_lt_of_cell? w _ hx166_0)).trans hx166_0
                                                replace hx166_1 := (HB.out.cell (World.block_lt_of_cell? w _ hx166_1)).trans hx166_1
                                                replace hx166_2 := (HB.out.cell (World.block_lt_of_cell? w _ hx166_2)).trans hx166_2
                                                replace hx166_3 := (HB.out.cell (World.block_lt_of_cell? w _ hx166_3)).trans hx166_3
                                                replace hx166_4 := (HB.out.cell (World.block_lt_of_cell? w _ hx166_4)).trans hx166_4
                                                replace hx166_5 := (HB.out.cell (World.block_lt_of_cell? w _ hx166_5)).trans hx166_5
                                                replace hx166_6 := (HB.out.cell (World.block_lt_of_cell? w _ hx166_6)).trans hx166_6
                                                replace hx166_7 := (HB.out.cell (World.block_lt_of_cell? w _ hx166_7)).trans hx166_7
                                                replace hx166_8 := (HB.out.cell (World.block_lt_of_cell? w _ hx166_8)).trans hx166_8
                                                have HR166_8 := Aside0.mk hi166_8
                                                have HC166_8 := Aside0.mk hl166_8
                                                clear hi166_8 hl166_8
                                                replace p166 := eq_true p166
                                                replace q166 := eq_true q166
                                                go_upto_region 22 with (first | (go_at_call 14; (with_reducible refine (op_Sets.calls k6 ((rd_T44 ((rd_T40 ((rd_T37 l0_0 x5_3).f6) x6_4).f5) x8_5).f0) ((rd_T44 ((rd_T40 ((rd_T37 l0_0 x5_3).f6) x6_4).f5) x8_5).f1) ((rd_T44 ((rd_T40 ((rd_T37 l0_0 x5_3).f6) x6_4).f5) x8_5).f2) ((rd_T44 ((rd_T40 ((rd_T37 l0_0 x5_3).f6) x6_4).f5) x8_5).f3) ((rd_T44 ((rd_T40 ((rd_T37 l0_0 x5_3).f6) x6_4).f5) x8_5).f4) ((rd_T44 ((rd_T40 ((rd_T37 l0_0 x5_3).f6) x6_4).f5) x8_5).f5) ((rd_T44 ((rd_T40 ((rd_T37 l0_0 x5_3).f6) x6_4).f5) x8_5).f6) ((rd_T44 ((rd_T40 ((rd_T37 l0_0 x5_3).f6) x6_4).f5) x8_5).f7) _ _ ((rd_T44 ((rd_T40 ((rd_T37 l0_0 x5_3).f6) x6_4).f5) x8_5).f8) t167 t168 _ ?side3 ?side1 ?side2 A48.out).mono ?_); (case side1 => repeat (first | exact (Kd.C_below HR166_8.out HB.out) | (with_reducible refine Kd.C_alloc ?_ _) | (with_reducible refine Kd.C_drewN ?_ _) | (with_reducible refine Kd.C_drew ?_))); (case side2 => exact HC166_8.out); (case side3 => repeat (first | exact (GW.below HG.out HB.out) | (with_reducible refine GW.alloc ?_ _) | (with_reducible refine GW.drewN ?_ _) | (with_reducible refine GW.drew ?_))); rintro e w53 ⟨rfl, hb⟩; have n0_ := Aside0.mk (Kd.R_below (by (with_reducible repeat (first | apply Kd.R_alloc | apply Kd.R_drewN | apply Kd.R_drew)); exact HO_4.out) hb); have n1_ := Aside0.mk (Kd.R_below (by (with_reducible repeat (first | apply Kd.R_alloc | apply Kd.R_drewN | apply Kd.R_drew)); exact HO_9.out) hb); have n2_ := Aside0.mk (blk_below (g := gb148) (o := .cells #[.slice (some ad156) l0_0.length c0_0, .slice A0_1 l0_1.length c0_1, .string a0_2, .string a0_3, .string a0_4] 27 (0, 0)) (by (with_reducible repeat (first | refine blk_drewN ?_ _ | refine blk_drew ?_ | refine blk_alloc ?_ _)); exact BK148.out) hb); have n3_ := Aside0.mk (blk_below (g := gb159) (o := .cells #[.string ((rd_T40 ((rd_T37 l0_0 x5_3).f6) x6_4).f0), .string ((rd_T40 ((rd_T37 l0_0 x5_3).f6) x6_4).f1), .bool ((rd_T40 ((rd_T37 l0_0 x5_3).f6) x6_4).f2), .bool ((rd_T40 ((rd_T37 l0_0 x5_3).f6) x6_4).f3), .int .i64 ((rd_T40 ((rd_T37 l0_0 x5_3).f6) x6_4).f4), .slice (some ad160) ((rd_T40 ((rd_T37 l0_0 x5_3).f6) x6_4).f5).length c158_5] 40 (0, 0)) (by (with_reducible repeat (first | refine blk_drewN ?_ _ | refine blk_drew ?_ | refine blk_alloc ?_ _)); exact BK159.out) hb); have n4_ := Aside0.mk (below_step (by repeat (first | (with_reducible first | exact HB.out | apply below_alloc | apply pw_below_drewN | apply below_drew1 | refine below_set ?_ GE148.out | refine below_set ?_ GE159.out) | exact HB.out)) hb); clear HO_4; clear HO_9; clear BK148; clear BK159; clear HB; have HO_4 := n0_; have HO_9 := n1_; have BK148 := n2_; have BK159 := n3_; have HB := n4_; clear n0_ n1_ n2_ n3_ n4_; (try clear hb); (try clear hb2); (try clear hk); (try clear hi)))
                                                repeat (go_quiet (first | (go_at_call 14; (with_reducible refine (op_Sets.calls k6 ((rd_T44 ((rd_T40 ((rd_T37 l0_0 x5_3).f6) x6_4).f5) x8_5).f0) ((rd_T44 ((rd_T40 ((rd_T37 l0_0 x5_3).f6) x6_4).f5) x8_5).f1) ((rd_T44 ((rd_T40 ((rd_T37 l0_0 x5_3).f6) x6_4).f5) x8_5).f2) ((rd_T44 ((rd_T40 ((rd_T37 l0_0 x5_3).f6) x6_4).f5) x8_5).f3) ((rd_T44 ((rd_T40 ((rd_T37 l0_0 x5_3).f6) x6_4).f5) x8_5).f4) ((rd_T44 ((rd_T40 ((rd_T37 l0_0 x5_3).f6) x6_4).f5) x8_5).f5) ((rd_T44 ((rd_T40 ((rd_T37 l0_0 x5_3).f6) x6_4).f5) x8_5).f6) ((rd_T44 ((rd_T40 ((rd_T37 l0_0 x5_3).f6) x6_4).f5) x8_5).f7) _ _ ((rd_T44 ((rd_T40 ((rd_T37 l0_0 x5_3).f6) x6_4).f5) x8_5).f8) t167 t168 _ ?side3 ?side1 ?side2 A48.out).mono ?_); (case side1 => repeat (first | exact (Kd.C_below HR166_8.out HB.out) | (with_reducible refine Kd.C_alloc ?_ _) | (with_reducible refine Kd.C_drewN ?_ _) | (with_reducible refine Kd.C_drew ?_))); (case side2 => exact HC166_8.out); (case side3 => repeat (first | exact (GW.below HG.out HB.out) | (with_reducible refine GW.alloc ?_ _) | (with_reducible refine GW.drewN ?_ _) | (with_reducible refine GW.drew ?_))); rintro e w53 ⟨rfl, hb⟩; have n0_ := Aside0.mk (Kd.R_below (by (with_reducible repeat (first | apply Kd.R_alloc | apply Kd.R_drewN | apply Kd.R_drew)); exact HO_4.out) hb); have n1_ := Aside0.mk (Kd.R_below (by (with_reducible repeat (first | apply Kd.R_alloc | apply Kd.R_drewN | apply Kd.R_drew)); exact HO_9.out) hb); have n2_ := Aside0.mk (blk_below (g := gb148) (o := .cells #[.slice (some ad156) l0_0.length c0_0, .slice A0_1 l0_1.length c0_1, .string a0_2, .string a0_3, .string a0_4] 27 (0, 0)) (by (with_reducible repeat (first | refine blk_drewN ?_ _ | refine blk_drew ?_ | refine blk_alloc ?_ _)); exact BK148.out) hb); have n3_ := Aside0.mk (blk_below (g := gb159) (o := .cells #[.string ((rd_T40 ((rd_T37 l0_0 x5_3).f6) x6_4).f0), .string ((rd_T40 ((rd_T37 l0_0 x5_3).f6) x6_4).f1), .bool ((rd_T40 ((rd_T37 l0_0 x5_3).f6) x6_4).f2), .bool ((rd_T40 ((rd_T37 l0_0 x5_3).f6) x6_4).f3), .int .i64 ((rd_T40 ((rd_T37 l0_0 x5_3).f6) x6_4).f4), .slice (some ad160) ((rd_T40 ((rd_T37 l0_0 x5_3).f6) x6_4).f5).length c158_5] 40 (0, 0)) (by (with_reducible repeat (first | refine blk_drewN ?_ _ | refine blk_drew ?_ | refine blk_alloc ?_ _)); exact BK159.out) hb); have n4_ := Aside0.mk (below_step (by repeat (first | (with_reducible first | exact HB.out | apply below_alloc | apply pw_below_drewN | apply below_drew1 | refine below_set ?_ GE148.out | refine below_set ?_ GE159.out) | exact HB.out)) hb); clear HO_4; clear HO_9; clear BK148; clear BK159; clear HB; have HO_4 := n0_; have HO_9 := n1_; have BK148 := n2_; have BK159 := n3_; have HB := n4_; clear n0_ n1_ n2_ n3_ n4_; (try clear hb); (try clear hb2); (try clear hk); (try clear hi))); go_upto_region 22 with (first | (go_at_call 14; (with_reducible refine (op_Sets.calls k6 ((rd_T44 ((rd_T40 ((rd_T37 l0_0 x5_3).f6) x6_4).f5) x8_5).f0) ((rd_T44 ((rd_T40 ((rd_T37 l0_0 x5_3).f6) x6_4).f5) x8_5).f1) ((rd_T44 ((rd_T40 ((rd_T37 l0_0 x5_3).f6) x6_4).f5) x8_5).f2) ((rd_T44 ((rd_T40 ((rd_T37 l0_0 x5_3).f6) x6_4).f5) x8_5).f3) ((rd_T44 ((rd_T40 ((rd_T37 l0_0 x5_3).f6) x6_4).f5) x8_5).f4) ((rd_T44 ((rd_T40 ((rd_T37 l0_0 x5_3).f6) x6_4).f5) x8_5).f5) ((rd_T44 ((rd_T40 ((rd_T37 l0_0 x5_3).f6) x6_4).f5) x8_5).f6) ((rd_T44 ((rd_T40 ((rd_T37 l0_0 x5_3).f6) x6_4).f5) x8_5).f7) _ _ ((rd_T44 ((rd_T40 ((rd_T37 l0_0 x5_3).f6) x6_4).f5) x8_5).f8) t167 t168 _ ?side3 ?side1 ?side2 A48.out).mono ?_); (case side1 => repeat (first | exact (Kd.C_below HR166_8.out HB.out) | (with_reducible refine Kd.C_alloc ?_ _) | (with_reducible refine Kd.C_drewN ?_ _) | (with_reducible refine Kd.C_drew ?_))); (case side2 => exact HC166_8.out); (case side3 => repeat (first | exact (GW.below HG.out HB.out) | (with_reducible refine GW.alloc ?_ _) | (with_reducible refine GW.drewN ?_ _) | (with_reducible refine GW.drew ?_))); rintro e w53 ⟨rfl, hb⟩; have n0_ := Aside0.mk (Kd.R_below (by (with_reducible repeat (first | apply Kd.R_alloc | apply Kd.R_drewN | apply Kd.R_drew)); exact HO_4.out) hb); have n1_ := Aside0.mk (Kd.R_below (by (with_reducible repeat (first | apply Kd.R_alloc | apply Kd.R_drewN | apply Kd.R_drew)); exact HO_9.out) hb); have n2_ := Aside0.mk (blk_below (g := gb148) (o := .cells #[.slice (some ad156) l0_0.length c0_0, .slice A0_1 l0_1.length c0_1, .string a0_2, .string a0_3, .string a0_4] 27 (0, 0)) (by (with_reducible repeat (first | refine blk_drewN ?_ _ | refine blk_drew ?_ | refine blk_alloc ?_ _)); exact BK148.out) hb); have n3_ := Aside0.mk (blk_below (g := gb159) (o := .cells #[.string ((rd_T40 ((rd_T37 l0_0 x5_3).f6) x6_4).f0), .string ((rd_T40 ((rd_T37 l0_0 x5_3).f6) x6_4).f1), .bool ((rd_T40 ((rd_T37 l0_0 x5_3).f6) x6_4).f2), .bool ((rd_T40 ((rd_T37 l0_0 x5_3).f6) x6_4).f3), .int .i64 ((rd_T40 ((rd_T37 l0_0 x5_3).f6) x6_4).f4), .slice (some ad160) ((rd_T40 ((rd_T37 l0_0 x5_3).f6) x6_4).f5).length c158_5] 40 (0, 0)) (by (with_reducible repeat (first | refine blk_drewN ?_ _ | refine blk_drew ?_ | refine blk_alloc ?_ _)); exact BK159.out) hb); have n4_ := Aside0.mk (below_step (by repeat (first | (with_reducible first | exact HB.out | apply below_alloc | apply pw_below_drewN | apply below_drew1 | refine below_set ?_ GE148.out | refine below_set ?_ GE159.out) | exact HB.out)) hb); clear HO_4; clear HO_9; clear BK148; clear BK159; clear HB; have HO_4 := n0_; have HO_9 := n1_; have BK148 := n2_; have BK159 := n3_; have HB := n4_; clear n0_ n1_ n2_ n3_ n4_; (try clear hb); (try clear hb2); (try clear hk); (try clear hi))))
                                                (try simp only [Act.put, List.setIfInBounds_toArray, List.set_cons_zero, List.set_cons_succ])
                                                go_cut [109] (fun v109 wc => ∃ (kq : Nat) (x109_48 : Bool), v109 = .bool x109_48 ∧ Aside0 (secateurtop_TopCodes.j6 kq x3_1 t153 x5_3 x6_4 x8_5 x109_48 l0_0 l0_1 a0_2 a0_3 a0_4 ((rd_T40 ((rd_T37 l0_0 x5_3).f6) x6_4).f0) ((rd_T40 ((rd_T37 l0_0 x5_3).f6) x6_4).f1) ((rd_T40 ((rd_T37 l0_0 x5_3).f6) x6_4).f2) ((rd_T40 ((rd_T37 l0_0 x5_3).f6) x6_4).f3) ((rd_T40 ((rd_T37 l0_0 x5_3).f6) x6_4).f4) ((rd_T40 ((rd_T37 l0_0 x5_3).f6) x6_4).f5) = some r) ∧ Aside0 (kq ≤ k6) ∧ Aside0 (Kd.R Kd.string 9 wc w.heap.size (fun _ => True) v154 t153) ∧ Aside0 (wc.heap[gb148]? = some (.cells #[(.slice (some ad156) l0_0.length c0_0), (.slice A0_1 l0_1.length c0_1), .string a0_2, .string a0_3, .string a0_4] 27 (0, 0))) ∧ Aside0 (wc.heap[gb159]? = some (.cells #[.string ((rd_T40 ((rd_T37 l0_0 x5_3).f6) x6_4).f0), .string ((rd_T40 ((rd_T37 l0_0 x5_3).f6) x6_4).f1), .bool ((rd_T40 ((rd_T37 l0_0 x5_3).f6) x6_4).f2), .bool ((rd_T40 ((rd_T37 l0_0 x5_3).f6) x6_4).f3), .int .i64 ((rd_T40 ((rd_T37 l0_0 x5_3).f6) x6_4).f4), (.slice (some ad160) ((rd_T40 ((rd_T37 l0_0 x5_3).f6) x6_4).f5).length c158_5)] 40 (0, 0))) ∧ Aside0 (Below w.heap.size w wc))
                                                case first =>
                                                  have H := HC49.out
                                                  clear HC49
                                                  by_cases c54 : t168 = true
                                                  · subst c54
                                                    have H1 : (if t167 < 0 then (secateurtop_TopCodes.j6 k6 x3_1 t153 x5_3 x6_4 x8_5 true l0_0 l0_1 a0_2 a0_3 a0_4 ((rd_T40 ((rd_T37 l0_0 x5_3).f6) x6_4).f0) ((rd_T40 ((rd_T37 l0_0 x5_3).f6) x6_4).f1) ((rd_T40 ((rd_T37 l0_0 x5_3).f6) x6_4).f2) ((rd_T40 ((rd_T37 l0_0 x5_3).f6) x6_4).f3) ((rd_T40 ((rd_T37 l0_0 x5_3).f6) x6_4).f4) ((rd_T40 ((rd_T37 l0_0 x5_3).f6) x6_4).f5)) else (secateurtop_TopCodes.j6 k6 x3_1 t153 x5_3 x6_4 x8_5 (decide (t167 ≥ ((rd_T40 ((rd_T37 l0_0 x5_3).f6) x6_4).f4))) l0_0 l0_1 a0_2 a0_3 a0_4 ((rd_T40 ((rd_T37 l0_0 x5_3).f6) x6_4).f0) ((rd_T40 ((rd_T37 l0_0 x5_3).f6) x6_4).f1) ((rd_T40 ((rd_T37 l0_0 x5_3).f6) x6_4).f2) ((rd_T40 ((rd_T37 l0_0 x5_3).f6) x6_4).f3) ((rd_T40 ((rd_T37 l0_0 x5_3).f6) x6_4).f4) ((rd_T40 ((rd_T37 l0_0 x5_3).f6) x6_4).f5))) = some r := by rw [if_pos rfl] at H; exact H
                                                    clear H
                                                    have H := H1
                                                    clear H1
                                                    by_cases c55 : t167 < 0
                                                    · rw [if_pos c55] at H
                                                      have c55b0 : decide (t167 < 0) = true := decide_eq_true c55
                                                      clear c55
                                                      (first | rw [c55b0] | (simp only [i64_w, i32_w]; rw [c55b0]) | skip)
                                                      have H' := Aside0.mk H
                                                      clear H
                                                      go_wp2
                                                      repeat (go_quiet (fail); try go_wp2)
                                                      go_meet
                                                      case rel => exact ⟨_, (true), (by first | rfl | (simp; done) | (simp [*]; done) | (exfalso; simp only [beq_iff_eq] at *; omega)), H', ⟨by have := HJ1.out; have := HJ8.out; have := HK3.out; have := HK4.out; have := HK5.out; have := HK6.out; first | omega | exact Nat.le_refl _⟩, ⟨by (with_reducible repeat (first | apply Kd.R_alloc | apply Kd.R_drewN | apply Kd.R_drew)); exact HO_4.out⟩, ⟨by (with_reducible repeat (first | refine blk_drewN ?_ _ | refine blk_drew ?_ | refine blk_alloc ?_ _)); exact BK148.out⟩, ⟨by (with_reducible repeat (first | refine blk_drewN ?_ _ | refine blk_drew ?_ | refine blk_alloc ?_ _)); exact BK159.out⟩, ⟨by repeat (first | (with_reducible first | exact HB.out | apply below_alloc | apply pw_below_drewN | apply below_drew1 | refine below_set ?_ GE148.out | refine below_set ?_ GE159.out) | exact HB.out)⟩⟩
                                                    · rw [if_neg c55] at H
                                                      have c55b0 : decide (t167 < 0) = false := decide_eq_false c55
                                                      clear c55
                                                      (first | rw [c55b0] | (simp only [i64_w, i32_w]; rw [c55b0]) | skip)
                                                      have H' := Aside0.mk H
                                                      clear H
                                                      have hnb56 := NB159_148.out
                                                      have hnc56 := NB148_159.out
                                                      have hcz57_0 : w53.cell? ⟨gb159, 0, none⟩ = some (.string ((rd_T40 ((rd_T37 l0_0 x5_3).f6) x6_4).f0)) := (blk_cell BK159.out 0).trans rfl
                                                      have hcz57_1 : w53.cell? ⟨gb159, 1, none⟩ = some (.string ((rd_T40 ((rd_T37 l0_0 x5_3).f6) x6_4).f1)) := (blk_cell BK159.out 1).trans rfl
                                                      have hcz57_2 : w53.cell? ⟨gb159, 2, none⟩ = some (.bool ((rd_T40 ((rd_T37 l0_0 x5_3).f6) x6_4).f2)) := (blk_cell BK159.out 2).trans rfl
                                                      have hcz57_3 : w53.cell? ⟨gb159, 3, none⟩ = some (.bool ((rd_T40 ((rd_T37 l0_0 x5_3).f6) x6_4).f3)) := (blk_cell BK159.out 3).trans rfl
                                                      have hcz57_4 : w53.cell? ⟨gb159, 4, none⟩ = some (.int .i64 ((rd_T40 ((rd_T37 l0_0 x5_3).f6) x6_4).f4)) := (blk_cell BK159.out 4).trans rfl
                                                      have hcz57_5 : w53.cell? ⟨gb159, 5, none⟩ = some (.slice (some ad160) ((rd_T40 ((rd_T37 l0_0 x5_3).f6) x6_4).f5).length c158_5) := (blk_cell BK159.out 5).trans rfl
                                                      have hfz57_0 := blk_frozen BK159.out 0
                                                      have hfz57_1 := blk_frozen BK159.out 1
                                                      have hfz57_2 := blk_frozen BK159.out 2
                                                      have hfz57_3 := blk_frozen BK159.out 3
                                                      have hfz57_4 := blk_frozen BK159.out 4
                                                      have hfz57_5 := blk_frozen BK159.out 5
                                                      go_wp2
                                                      repeat (go_quiet (fail); try go_wp2)
                                                      go_meet
                                                      case rel => exact ⟨_, (decide (t167 ≥ ((rd_T40 ((rd_T37 l0_0 x5_3).f6) x6_4).f4))), (by first | rfl | (simp; done) | (simp [*]; done) | (exfalso; simp only [beq_iff_eq] at *; omega)), H', ⟨by have := HJ1.out; have := HJ8.out; have := HK3.out; have := HK4.out; have := HK5.out; have := HK6.out; first | omega | exact Nat.le_refl _⟩, ⟨by (with_reducible repeat (first | apply Kd.R_alloc | apply Kd.R_drewN | apply Kd.R_drew)); exact HO_4.out⟩, ⟨by (with_reducible repeat (first | refine blk_drewN ?_ _ | refine blk_drew ?_ | refine blk_alloc ?_ _)); exact BK148.out⟩, ⟨by (with_reducible repeat (first | refine blk_drewN ?_ _ | refine blk_drew ?_ | refine blk_alloc ?_ _)); exact BK159.out⟩, ⟨by repeat (first | (with_reducible first | exact HB.out | apply below_alloc | apply pw_below_drewN | apply below_drew1 | refine below_set ?_ GE148.out | refine below_set ?_ GE159.out) | exact HB.out)⟩⟩
                                                  · replace c54 := Bool.eq_false_iff.mpr c54
                                                    subst c54
                                                    have H1 : (secateurtop_TopCodes.j6 k6 x3_1 t153 x5_3 x6_4 x8_5 false l0_0 l0_1 a0_2 a0_3 a0_4 ((rd_T40 ((rd_T37 l0_0 x5_3).f6) x6_4).f0) ((rd_T40 ((rd_T37 l0_0 x5_3).f6) x6_4).f1) ((rd_T40 ((rd_T37 l0_0 x5_3).f6) x6_4).f2) ((rd_T40 ((rd_T37 l0_0 x5_3).f6) x6_4).f3) ((rd_T40 ((rd_T37 l0_0 x5_3).f6) x6_4).f4) ((rd_T40 ((rd_T37 l0_0 x5_3).f6) x6_4).f5)) = some r := by rw [if_neg (show ¬ (false = true) by decide)] at H; exact H
                                                    clear H
                                                    have H := H1
                                                    clear H1
                                                    have H' := Aside0.mk H
                                                    clear H
                                                    go_wp2
                                                    repeat (go_quiet (fail); try go_wp2)
                                                    go_meet
                                                    case rel => exact ⟨_, (false), (by first | rfl | (simp; done) | (simp [*]; done) | (exfalso; simp only [beq_iff_eq] at *; omega)), H', ⟨by have := HJ1.out; have := HJ8.out; have := HK3.out; have := HK4.out; have := HK5.out; have := HK6.out; first | omega | exact Nat.le_refl _⟩, ⟨by (with_reducible repeat (first | apply Kd.R_alloc | apply Kd.R_drewN | apply Kd.R_drew)); exact HO_4.out⟩, ⟨by (with_reducible repeat (first | refine blk_drewN ?_ _ | refine blk_drew ?_ | refine blk_alloc ?_ _)); exact BK148.out⟩, ⟨by (with_reducible repeat (first | refine blk_drewN ?_ _ | refine blk_drew ?_ | refine blk_alloc ?_ _)); exact BK159.out⟩, ⟨by repeat (first | (with_reducible first | exact HB.out | apply below_alloc | apply pw_below_drewN | apply below_drew1 | refine below_set ?_ GE148.out | refine below_set ?_ GE159.out) | exact HB.out)⟩⟩
                                                case rest =>
                                                  clear HC49
                                                  try clear c1
                                                  try clear p1
                                                  try clear q1
                                                  try clear hx1
                                                  try clear c2
                                                  try clear p2
                                                  try clear c3
                                                  try clear c4
                                                  try clear c5
                                                  try clear c5b0
                                                  try clear c5b1
                                                  try clear p6
                                                  try clear c11
                                                  try clear c15
                                                  try clear p15
                                                  try clear q15
                                                  try clear hx15
                                                  try clear c16
                                                  try clear p16
                                                  try clear q16
                                                  try clear hx16
                                                  try clear c19
                                                  try clear c23
                                                  try clear c23b0
                                                  try clear c25
                                                  try clear c25b0
                                                  try clear c26
                                                  try clear c26b0
                                                  try clear c27
                                                  try clear c27b0
                                                  try clear c28
                                                  try clear c28b0
                                                  try clear c31
                                                  try clear c33
                                                  try clear c33b0
                                                  try clear c34
                                                  try clear c34b0
                                                  try clear c36
                                                  try clear c39
                                                  try clear c39b0
                                                  try clear c40
                                                  try clear c40b0
                                                  try clear c41
                                                  try clear c41b0
                                                  try clear c42
                                                  try clear c42b0
                                                  try clear c44
                                                  try clear c46
                                                  try clear c46b0
                                                  try clear c47
                                                  try clear c47b0
                                                  try clear c51
                                                  try clear c54
                                                  try clear c55
                                                  try clear c55b0
                                                  try clear c56
                                                  try clear hcz12_0
                                                  try clear hcz12_1
                                                  try clear hcz12_2
                                                  try clear hcz12_3
                                                  try clear hcz12_4
                                                  try clear hcz15_0
                                                  try clear hcz15_1
                                                  try clear hcz15_2
                                                  try clear hcz15_3
                                                  try clear hcz15_4
                                                  try clear hcz17_0
                                                  try clear hcz17_1
                                                  try clear hcz17_2
                                                  try clear hcz17_3
                                                  try clear hcz17_4
                                                  try clear hcz21_0
                                                  try clear hcz21_1
                                                  try clear hcz21_2
                                                  try clear hcz21_3
                                                  try clear hcz21_4
                                                  try clear hcz24_0
                                                  try clear hcz24_1
                                                  try clear hcz24_2
                                                  try clear hcz24_3
                                                  try clear hcz24_4
                                                  try clear hcz29_0
                                                  try clear hcz29_1
                                                  try clear hcz29_2
                                                  try clear hcz29_3
                                                  try clear hcz29_4
                                                  try clear hcz32_0
                                                  try clear hcz32_1
                                                  try clear hcz32_2
                                                  try clear hcz32_3
                                                  try clear hcz32_4
                                                  try clear hcz32_5
                                                  try clear hcz37_0
                                                  try clear hcz37_1
                                                  try clear hcz37_2
                                                  try clear hcz37_3
                                                  try clear hcz37_4
                                                  try clear hcz37_5
                                                  try clear hcz45_0
                                                  try clear hcz45_1
                                                  try clear hcz45_2
                                                  try clear hcz45_3
                                                  try clear hcz45_4
                                                  try clear hcz45_5
                                                  try clear hcz52_0
                                                  try clear hcz52_1
                                                  try clear hcz52_2
                                                  try clear hcz52_3
                                                  try clear hcz52_4
                                                  try clear hcz52_5
                                                  try clear hcz57_0
                                                  try clear hcz57_1
                                                  try clear hcz57_2
                                                  try clear hcz57_3
                                                  try clear hcz57_4
                                                  try clear hcz57_5
                                                  try clear hfz12_0
                                                  try clear hfz12_1
                                                  try clear hfz12_2
                                                  try clear hfz12_3
                                                  try clear hfz12_4
                                                  try clear hfz15_0
                                                  try clear hfz15_1
                                                  try clear hfz15_2
                                                  try clear hfz15_3
                                                  try clear hfz15_4
                                                  try clear hfz17_0
                                                  try clear hfz17_1
                                                  try clear hfz17_2
                                                  try clear hfz17_3
                                                  try clear hfz17_4
                                                  try clear hfz21_0
                                                  try clear hfz21_1
                                                  try clear hfz21_2
                                                  try clear hfz21_3
                                                  try clear hfz21_4
                                                  try clear hfz24_0
                                                  try clear hfz24_1
                                                  try clear hfz24_2
                                                  try clear hfz24_3
                                                  try clear hfz24_4
                                                  try clear hfz29_0
                                                  try clear hfz29_1
                                                  try clear hfz29_2
                                                  try clear hfz29_3
                                                  try clear hfz29_4
                                                  try clear hfz32_0
                                                  try clear hfz32_1
                                                  try clear hfz32_2
                                                  try clear hfz32_3
                                                  try clear hfz32_4
                                                  try clear hfz32_5
                                                  try clear hfz37_0
                                                  try clear hfz37_1
                                                  try clear hfz37_2
                                                  try clear hfz37_3
                                                  try clear hfz37_4
                                                  try clear hfz37_5
                                                  try clear hfz45_0
                                                  try clear hfz45_1
                                                  try clear hfz45_2
                                                  try clear hfz45_3
                                                  try clear hfz45_4
                                                  try clear hfz45_5
                                                  try clear hfz52_0
                                                  try clear hfz52_1
                                                  try clear hfz52_2
                                                  try clear hfz52_3
                                                  try clear hfz52_4
                                                  try clear hfz52_5
                                                  try clear hfz57_0
                                                  try clear hfz57_1
                                                  try clear hfz57_2
                                                  try clear hfz57_3
                                                  try clear hfz57_4
                                                  try clear hfz57_5
                                                  try clear hx156_0
                                                  try clear hx156_1
                                                  try clear hx156_2
                                                  try clear hx156_3
                                                  try clear hx156_4
                                                  try clear hx156_5
                                                  try clear hx156_6
                                                  try clear hx157_0
                                                  try clear hx157_1
                                                  try clear hx157_2
                                                  try clear hx157_3
                                                  try clear hx157_4
                                                  try clear hx157_5
                                                  try clear hx157_6
                                                  try clear hx158_0
                                                  try clear hx158_1
                                                  try clear hx158_2
                                                  try clear hx158_3
                                                  try clear hx158_4
                                                  try clear hx158_5
                                                  try clear hx160_0
                                                  try clear hx160_1
                                                  try clear hx160_2
                                                  try clear hx160_3
                                                  try clear hx160_4
                                                  try clear hx160_5
                                                  try clear hx160_6
                                                  try clear hx160_7
                                                  try clear hx160_8
                                                  try clear hx164_0
                                                  try clear hx165_0
                                                  try clear hx166_0
                                                  try clear hx166_1
                                                  try clear hx166_2
                                                  try clear hx166_3
                                                  try clear hx166_4
                                                  try clear hx166_5
                                                  try clear hx166_6
                                                  try clear hx166_7
                                                  try clear hx166_8
                                                  try clear p1
                                                  try clear p15
                                                  try clear p156
                                                  try clear p157
                                                  try clear p158
                                                  try clear p16
                                                  try clear p160
                                                  try clear p164
                                                  try clear p165
                                                  try clear p166
                                                  try clear p2
                                                  try clear q1
                                                  try clear q15
                                                  try clear q156
                                                  try clear q157
                                                  try clear q158
                                                  try clear q16
                                                  try clear q160
                                                  try clear q164
                                                  try clear q165
                                                  try clear q166
                                                  obtain ⟨kq, x109_48, rfl, HA, HJ48, HO_4, BK148, BK159, HB⟩ := hcut
                                                  cases kq with
                                                  | zero => exact absurd HA.out (by simp [secateurtop_TopCodes.j6])
                                                  | succ kj48 =>
                                                    have H := HA.out
                                                    clear HA
                                                    simp only [secateurtop_TopCodes.j6] at H
                                                    by_cases c58 : x109_48 = true
                                                    · subst c58
                                                      have H1 : (some false) = some r := by rw [if_pos rfl] at H; exact H
                                                      clear H
                                                      have H := H1
                                                      clear H1
                                                      obtain rfl := Option.some.inj H
                                                      cases HRT.out
                                                    · replace c58 := Bool.eq_false_iff.mpr c58
                                                      subst c58
                                                      have H1 : (if 0 ≤ x8_5 then (if x8_5 < (((rd_T40 ((rd_T37 l0_0 x5_3).f6) x6_4).f5).length : Int) then ((secateurtop_in.f kj48 t153 ((rd_T44 ((rd_T40 ((rd_T37 l0_0 x5_3).f6) x6_4).f5) x8_5).f5)).bind fun t170 => (if t170 = true then ((secateurtop_in.f kj48 t153 ((rd_T44 ((rd_T40 ((rd_T37 l0_0 x5_3).f6) x6_4).f5) x8_5).f6)).bind fun t172 => (if t172 = true then ((secateurtop_in.f kj48 t153 ((rd_T44 ((rd_T40 ((rd_T37 l0_0 x5_3).f6) x6_4).f5) x8_5).f7)).bind fun t174 => (if t174 = true then (secateurtop_TopCodes.l2 kj48 x3_1 t153 x5_3 x6_4 (wrap64 (x8_5 + 1)) l0_0 l0_1 a0_2 a0_3 a0_4 ((rd_T40 ((rd_T37 l0_0 x5_3).f6) x6_4).f0) ((rd_T40 ((rd_T37 l0_0 x5_3).f6) x6_4).f1) ((rd_T40 ((rd_T37 l0_0 x5_3).f6) x6_4).f2) ((rd_T40 ((rd_T37 l0_0 x5_3).f6) x6_4).f3) ((rd_T40 ((rd_T37 l0_0 x5_3).f6) x6_4).f4) ((rd_T40 ((rd_T37 l0_0 x5_3).f6) x6_4).f5)) else (some false))) else (some false))) else (some false))) else (none)) else (none)) = some r := by rw [if_neg (show ¬ (false = true) by decide)] at H; exact H
                                                      clear H
                                                      have H := H1
                                                      clear H1
                                                      by_cases c59 : 0 ≤ x8_5
                                                      · rw [if_pos c59] at H
                                                        have c59b0 : decide (0 ≤ x8_5) = true := decide_eq_true c59
                                                        clear c59
                                                        by_cases c60 : x8_5 < (((rd_T40 ((rd_T37 l0_0 x5_3).f6) x6_4).f5).length : Int)
                                                        · rw [if_pos c60] at H
                                                          have c60b0 : decide (x8_5 < (((rd_T40 ((rd_T37 l0_0 x5_3).f6) x6_4).f5).length : Int)) = true := decide_eq_true c60
                                                          clear c60
                                                          replace H := Option.bind_eq_some_iff.mp H
                                                          obtain ⟨t170, A610, H⟩ := H
                                                          replace H : (if t170 = true then ((secateurtop_in.f kj48 t153 ((rd_T44 ((rd_T40 ((rd_T37 l0_0 x5_3).f6) x6_4).f5) x8_5).f6)).bind fun t172 => (if t172 = true then ((secateurtop_in.f kj48 t153 ((rd_T44 ((rd_T40 ((rd_T37 l0_0 x5_3).f6) x6_4).f5) x8_5).f7)).bind fun t174 => (if t174 = true then (secateurtop_TopCodes.l2 kj48 x3_1 t153 x5_3 x6_4 (wrap64 (x8_5 + 1)) l0_0 l0_1 a0_2 a0_3 a0_4 ((rd_T40 ((rd_T37 l0_0 x5_3).f6) x6_4).f0) ((rd_T40 ((rd_T37 l0_0 x5_3).f6) x6_4).f1) ((rd_T40 ((rd_T37 l0_0 x5_3).f6) x6_4).f2) ((rd_T40 ((rd_T37 l0_0 x5_3).f6) x6_4).f3) ((rd_T40 ((rd_T37 l0_0 x5_3).f6) x6_4).f4) ((rd_T40 ((rd_T37 l0_0 x5_3).f6) x6_4).f5)) else (some false))) else (some false))) else (some false)) = some r := H
                                                          have A61 := Aside0.mk A610
                                                          clear A610
                                                          by_cases c62 : t170 = true
                                                          · subst c62
                                                            have H1 : ((secateurtop_in.f kj48 t153 ((rd_T44 ((rd_T40 ((rd_T37 l0_0 x5_3).f6) x6_4).f5) x8_5).f6)).bind fun t172 => (if t172 = true then ((secateurtop_in.f kj48 t153 ((rd_T44 ((rd_T40 ((rd_T37 l0_0 x5_3).f6) x6_4).f5) x8_5).f7)).bind fun t174 => (if t174 = true then (secateurtop_TopCodes.l2 kj48 x3_1 t153 x5_3 x6_4 (wrap64 (x8_5 + 1)) l0_0 l0_1 a0_2 a0_3 a0_4 ((rd_T40 ((rd_T37 l0_0 x5_3).f6) x6_4).f0) ((rd_T40 ((rd_T37 l0_0 x5_3).f6) x6_4).f1) ((rd_T40 ((rd_T37 l0_0 x5_3).f6) x6_4).f2) ((rd_T40 ((rd_T37 l0_0 x5_3).f6) x6_4).f3) ((rd_T40 ((rd_T37 l0_0 x5_3).f6) x6_4).f4) ((rd_T40 ((rd_T37 l0_0 x5_3).f6) x6_4).f5)) else (some false))) else (some false))) = some r := by rw [if_pos rfl] at H; exact H
                                                            clear H
                                                            have H := H1
                                                            clear H1
                                                            replace H := Option.bind_eq_some_iff.mp H
                                                            obtain ⟨t172, A630, H⟩ := H
                                                            replace H : (if t172 = true then ((secateurtop_in.f kj48 t153 ((rd_T44 ((rd_T40 ((rd_T37 l0_0 x5_3).f6) x6_4).f5) x8_5).f7)).bind fun t174 => (if t174 = true then (secateurtop_TopCodes.l2 kj48 x3_1 t153 x5_3 x6_4 (wrap64 (x8_5 + 1)) l0_0 l0_1 a0_2 a0_3 a0_4 ((rd_T40 ((rd_T37 l0_0 x5_3).f6) x6_4).f0) ((rd_T40 ((rd_T37 l0_0 x5_3).f6) x6_4).f1) ((rd_T40 ((rd_T37 l0_0 x5_3).f6) x6_4).f2) ((rd_T40 ((rd_T37 l0_0 x5_3).f6) x6_4).f3) ((rd_T40 ((rd_T37 l0_0 x5_3).f6) x6_4).f4) ((rd_T40 ((rd_T37 l0_0 x5_3).f6) x6_4).f5)) else (some false))) else (some false)) = some r := H
                                                            have A63 := Aside0.mk A630
                                                            clear A630
                                                            by_cases c64 : t172 = true
                                                            · subst c64
                                                              have H1 : ((secateurtop_in.f kj48 t153 ((rd_T44 ((rd_T40 ((rd_T37 l0_0 x5_3).f6) x6_4).f5) x8_5).f7)).bind fun t174 => (if t174 = true then (secateurtop_TopCodes.l2 kj48 x3_1 t153 x5_3 x6_4 (wrap64 (x8_5 + 1)) l0_0 l0_1 a0_2 a0_3 a0_4 ((rd_T40 ((rd_T37 l0_0 x5_3).f6) x6_4).f0) ((rd_T40 ((rd_T37 l0_0 x5_3).f6) x6_4).f1) ((rd_T40 ((rd_T37 l0_0 x5_3).f6) x6_4).f2) ((rd_T40 ((rd_T37 l0_0 x5_3).f6) x6_4).f3) ((rd_T40 ((rd_T37 l0_0 x5_3).f6) x6_4).f4) ((rd_T40 ((rd_T37 l0_0 x5_3).f6) x6_4).f5)) else (some false))) = some r := by rw [if_pos rfl] at H; exact H
                                                              clear H
                                                              have H := H1
                                                              clear H1
                                                              replace H := Option.bind_eq_some_iff.mp H
                                                              obtain ⟨t174, A650, H⟩ := H
                                                              replace H : (if t174 = true then (secateurtop_TopCodes.l2 kj48 x3_1 t153 x5_3 x6_4 (wrap64 (x8_5 + 1)) l0_0 l0_1 a0_2 a0_3 a0_4 ((rd_T40 ((rd_T37 l0_0 x5_3).f6) x6_4).f0) ((rd_T40 ((rd_T37 l0_0 x5_3).f6) x6_4).f1) ((rd_T40 ((rd_T37 l0_0 x5_3).f6) x6_4).f2) ((rd_T40 ((rd_T37 l0_0 x5_3).f6) x6_4).f3) ((rd_T40 ((rd_T37 l0_0 x5_3).f6) x6_4).f4) ((rd_T40 ((rd_T37 l0_0 x5_3).f6) x6_4).f5)) else (some false)) = some r := H
                                                              have A65 := Aside0.mk A650
                                                              clear A650
                                                              by_cases c66 : t174 = true
                                                              · subst c66
                                                                have H1 : (secateurtop_TopCodes.l2 kj48 x3_1 t153 x5_3 x6_4 (wrap64 (x8_5 + 1)) l0_0 l0_1 a0_2 a0_3 a0_4 ((rd_T40 ((rd_T37 l0_0 x5_3).f6) x6_4).f0) ((rd_T40 ((rd_T37 l0_0 x5_3).f6) x6_4).f1) ((rd_T40 ((rd_T37 l0_0 x5_3).f6) x6_4).f2) ((rd_T40 ((rd_T37 l0_0 x5_3).f6) x6_4).f3) ((rd_T40 ((rd_T37 l0_0 x5_3).f6) x6_4).f4) ((rd_T40 ((rd_T37 l0_0 x5_3).f6) x6_4).f5)) = some r := by rw [if_pos rfl] at H; exact H
                                                                clear H
                                                                have H := H1
                                                                clear H1
                                                                have H' := Aside0.mk H
                                                                clear H
                                                                have hnb67 := NB159_148.out
                                                                have hnc67 := NB148_159.out
                                                                have hcz68_0 : wc.cell? ⟨gb159, 0, none⟩ = some (.string ((rd_T40 ((rd_T37 l0_0 x5_3).f6) x6_4).f0)) := (blk_cell BK159.out 0).trans rfl
                                                                have hcz68_1 : wc.cell? ⟨gb159, 1, none⟩ = some (.string ((rd_T40 ((rd_T37 l0_0 x5_3).f6) x6_4).f1)) := (blk_cell BK159.out 1).trans rfl
                                                                have hcz68_2 : wc.cell? ⟨gb159, 2, none⟩ = some (.bool ((rd_T40 ((rd_T37 l0_0 x5_3).f6) x6_4).f2)) := (blk_cell BK159.out 2).trans rfl
                                                                have hcz68_3 : wc.cell? ⟨gb159, 3, none⟩ = some (.bool ((rd_T40 ((rd_T37 l0_0 x5_3).f6) x6_4).f3)) := (blk_cell BK159.out 3).trans rfl
                                                                have hcz68_4 : wc.cell? ⟨gb159, 4, none⟩ = some (.int .i64 ((rd_T40 ((rd_T37 l0_0 x5_3).f6) x6_4).f4)) := (blk_cell BK159.out 4).trans rfl
                                                                have hcz68_5 : wc.cell? ⟨gb159, 5, none⟩ = some (.slice (some ad160) ((rd_T40 ((rd_T37 l0_0 x5_3).f6) x6_4).f5).length c158_5) := (blk_cell BK159.out 5).trans rfl
                                                                have hfz68_0 := blk_frozen BK159.out 0
                                                                have hfz68_1 := blk_frozen BK159.out 1
                                                                have hfz68_2 := blk_frozen BK159.out 2
                                                                have hfz68_3 := blk_frozen BK159.out 3
                                                                have hfz68_4 := blk_frozen BK159.out 4
                                                                have hfz68_5 := blk_frozen BK159.out 5
                                                                have p169 : 0 ≤ (x8_5 : Int) := of_decide_eq_true (by first | (with_reducible assumption) | assumption)
                                                                have q169 : x8_5 < (((rd_T40 ((rd_T37 l0_0 x5_3).f6) x6_4).f5).length : Int) := of_decide_eq_true (by first | (with_reducible assumption) | assumption)
                                                                obtain ⟨ad169, A169_8, c169_8, e169, hx169_0, hx169_1, hx169_2, hx169_3, hx169_4, hx169_5, hx169_6, hx169_7, hx169_8, hl169_8, hi169_8⟩ := at_T44 HR158_5.out x8_5 p169 q169
                                                                obtain rfl : ad160 = ad169 := (by injection e169)
                                                                replace hx169_0 := (HB.out.cell (World.block_lt_of_cell? w _ hx169_0)).trans hx169_0
                                                                replace hx169_1 := (HB.out.cell (World.block_lt_of_cell? w _ hx169_1)).trans hx169_1
                                                                replace hx169_2 := (HB.out.cell (World.block_lt_of_cell? w _ hx169_2)).trans hx169_2
                                                                replace hx169_3 := (HB.out.cell (World.block_lt_of_cell? w _ hx169_3)).trans hx169_3
                                                                replace hx169_4 := (HB.out.cell (World.block_lt_of_cell? w _ hx169_4)).trans hx169_4
                                                                replace hx169_5 := (HB.out.cell (World.block_lt_of_cell? w _ hx169_5)).trans hx169_5
                                                                replace hx169_6 := (HB.out.cell (World.block_lt_of_cell? w _ hx169_6)).trans hx169_6
                                                                replace hx169_7 := (HB.out.cell (World.block_lt_of_cell? w _ hx169_7)).trans hx169_7
                                                                replace hx169_8 := (HB.out.cell (World.block_lt_of_cell? w _ hx169_8)).trans hx169_8
                                                                have HR169_8 := Aside0.mk hi169_8
                                                                have HC169_8 := Aside0.mk hl169_8
                                                                clear hi169_8 hl169_8
                                                                replace p169 := eq_true p169
                                                                replace q169 := eq_true q169
                                                                obtain ⟨Ao69, co69, eo69⟩ := Kd.R_slice HO_4.out
                                                                subst eo69
                                                                go_wp2_with (first | (go_at_call 15; (with_reducible refine (secateurtop_in.calls kj48 _ _ t153 ((rd_T44 ((rd_T40 ((rd_T37 l0_0 x5_3).f6) x6_4).f5) x8_5).f5) true _ ?side1 ?side2 A61.out).mono ?_); (case side1 => repeat (first | exact (Kd.R_reads' HO_4.out).2.2 | (with_reducible refine Kd.C_alloc ?_ _) | (with_reducible refine Kd.C_drewN ?_ _) | (with_reducible refine Kd.C_drew ?_))); (case side2 => exact (Kd.R_reads' HO_4.out).2.1); rintro e w' ⟨rfl, ⟨nd, rfl⟩⟩; (try first | exact ⟨rfl, _, World.drewN_drewN _ _ _⟩ | exact ⟨rfl, _, Eq.trans (World.drewN_drewN _ _ _) (congrArg (World.drewN _) (Nat.add_assoc _ _ _))⟩); have p171 : 0 ≤ (x8_5 : Int) := of_decide_eq_true (by first | (with_reducible assumption) | assumption); have q171 : x8_5 < (((rd_T40 ((rd_T37 l0_0 x5_3).f6) x6_4).f5).length : Int) := of_decide_eq_true (by first | (with_reducible assumption) | assumption); obtain ⟨ad171, A171_8, c171_8, e171, hx171_0, hx171_1, hx171_2, hx171_3, hx171_4, hx171_5, hx171_6, hx171_7, hx171_8, hl171_8, hi171_8⟩ := at_T44 HR158_5.out x8_5 p171 q171; obtain rfl : ad160 = ad171 := (by injection e171); replace hx171_0 := (HB.out.cell (World.block_lt_of_cell? w _ hx171_0)).trans hx171_0; replace hx171_1 := (HB.out.cell (World.block_lt_of_cell? w _ hx171_1)).trans hx171_1; replace hx171_2 := (HB.out.cell (World.block_lt_of_cell? w _ hx171_2)).trans hx171_2; replace hx171_3 := (HB.out.cell (World.block_lt_of_cell? w _ hx171_3)).trans hx171_3; replace hx171_4 := (HB.out.cell (World.block_lt_of_cell? w _ hx171_4)).trans hx171_4; replace hx171_5 := (HB.out.cell (World.block_lt_of_cell? w _ hx171_5)).trans hx171_5; replace hx171_6 := (HB.out.cell (World.block_lt_of_cell? w _ hx171_6)).trans hx171_6; replace hx171_7 := (HB.out.cell (World.block_lt_of_cell? w _ hx171_7)).trans hx171_7; replace hx171_8 := (HB.out.cell (World.block_lt_of_cell? w _ hx171_8)).trans hx171_8; have HR171_8 := Aside0.mk hi171_8; have HC171_8 := Aside0.mk hl171_8; clear hi171_8 hl171_8; replace p171 := eq_true p171; replace q171 := eq_true q171; have ea_ := Option.some.inj (hx169_8.symm.trans hx171_8); injection ea_ with ea_ en_ ec_; subst ea_; subst ec_; clear en_) | (go_at_call 15; (with_reducible refine (secateurtop_in.calls kj48 _ _ t153 ((rd_T44 ((rd_T40 ((rd_T37 l0_0 x5_3).f6) x6_4).f5) x8_5).f6) true _ ?side1 ?side2 A63.out).mono ?_); (case side1 => repeat (first | exact (Kd.R_reads' HO_4.out).2.2 | (with_reducible refine Kd.C_alloc ?_ _) | (with_reducible refine Kd.C_drewN ?_ _) | (with_reducible refine Kd.C_drew ?_))); (case side2 => exact (Kd.R_reads' HO_4.out).2.1); rintro e w' ⟨rfl, ⟨nd, rfl⟩⟩; (try first | exact ⟨rfl, _, World.drewN_drewN _ _ _⟩ | exact ⟨rfl, _, Eq.trans (World.drewN_drewN _ _ _) (congrArg (World.drewN _) (Nat.add_assoc _ _ _))⟩); have p173 : 0 ≤ (x8_5 : Int) := of_decide_eq_true (by first | (with_reducible assumption) | assumption); have q173 : x8_5 < (((rd_T40 ((rd_T37 l0_0 x5_3).f6) x6_4).f5).length : Int) := of_decide_eq_true (by first | (with_reducible assumption) | assumption); obtain ⟨ad173, A173_8, c173_8, e173, hx173_0, hx173_1, hx173_2, hx173_3, hx173_4, hx173_5, hx173_6, hx173_7, hx173_8, hl173_8, hi173_8⟩ := at_T44 HR158_5.out x8_5 p173 q173; obtain rfl : ad160 = ad173 := (by injection e173); replace hx173_0 := (HB.out.cell (World.block_lt_of_cell? w _ hx173_0)).trans hx173_0; replace hx173_1 := (HB.out.cell (World.block_lt_of_cell? w _ hx173_1)).trans hx173_1; replace hx173_2 := (HB.out.cell (World.block_lt_of_cell? w _ hx173_2)).trans hx173_2; replace hx173_3 := (HB.out.cell (World.block_lt_of_cell? w _ hx173_3)).trans hx173_3; replace hx173_4 := (HB.out.cell (World.block_lt_of_cell? w _ hx173_4)).trans hx173_4; replace hx173_5 := (HB.out.cell (World.block_lt_of_cell? w _ hx173_5)).trans hx173_5; replace hx173_6 := (HB.out.cell (World.block_lt_of_cell? w _ hx173_6)).trans hx173_6; replace hx173_7 := (HB.out.cell (World.block_lt_of_cell? w _ hx173_7)).trans hx173_7; replace hx173_8 := (HB.out.cell (World.block_lt_of_cell? w _ hx173_8)).trans hx173_8; have HR173_8 := Aside0.mk hi173_8; have HC173_8 := Aside0.mk hl173_8; clear hi173_8 hl173_8; replace p173 := eq_true p173; replace q173 := eq_true q173; have ea_ := Option.some.inj (hx169_8.symm.trans hx173_8); injection ea_ with ea_ en_ ec_; subst ea_; subst ec_; clear en_) | (go_at_call 15; (with_reducible refine (secateurtop_in.calls kj48 _ _ t153 ((rd_T44 ((rd_T40 ((rd_T37 l0_0 x5_3).f6) x6_4).f5) x8_5).f7) true _ ?side1 ?side2 A65.out).mono ?_); (case side1 => repeat (first | exact (Kd.R_reads' HO_4.out).2.2 | (with_reducible refine Kd.C_alloc ?_ _) | (with_reducible refine Kd.C_drewN ?_ _) | (with_reducible refine Kd.C_drew ?_))); (case side2 => exact (Kd.R_reads' HO_4.out).2.1); rintro e w' ⟨rfl, ⟨nd, rfl⟩⟩; (try first | exact ⟨rfl, _, World.drewN_drewN _ _ _⟩ | exact ⟨rfl, _, Eq.trans (World.drewN_drewN _ _ _) (congrArg (World.drewN _) (Nat.add_assoc _ _ _))⟩)))
                                                                repeat (go_quiet (first | (go_at_call 15; (with_reducible refine (secateurtop_in.calls kj48 _ _ t153 ((rd_T44 ((rd_T40 ((rd_T37 l0_0 x5_3).f6) x6_4).f5) x8_5).f5) true _ ?side1 ?side2 A61.out).mono ?_); (case side1 => repeat (first | exact (Kd.R_reads' HO_4.out).2.2 | (with_reducible refine Kd.C_alloc ?_ _) | (with_reducible refine Kd.C_drewN ?_ _) | (with_reducible refine Kd.C_drew ?_))); (case side2 => exact (Kd.R_reads' HO_4.out).2.1); rintro e w' ⟨rfl, ⟨nd, rfl⟩⟩; (try first | exact ⟨rfl, _, World.drewN_drewN _ _ _⟩ | exact ⟨rfl, _, Eq.trans (World.drewN_drewN _ _ _) (congrArg (World.drewN _) (Nat.add_assoc _ _ _))⟩); have p171 : 0 ≤ (x8_5 : Int) := of_decide_eq_true (by first | (with_reducible assumption) | assumption); have q171 : x8_5 < (((rd_T40 ((rd_T37 l0_0 x5_3).f6) x6_4).f5).length : Int) := of_decide_eq_true (by first | (with_reducible assumption) | assumption); obtain ⟨ad171, A171_8, c171_8, e171, hx171_0, hx171_1, hx171_2, hx171_3, hx171_4, hx171_5, hx171_6, hx171_7, hx171_8, hl171_8, hi171_8⟩ := at_T44 HR158_5.out x8_5 p171 q171; obtain rfl : ad160 = ad171 := (by injection e171); replace hx171_0 := (HB.out.cell (World.block_lt_of_cell? w _ hx171_0)).trans hx171_0; replace hx171_1 := (HB.out.cell (World.block_lt_of_cell? w _ hx171_1)).trans hx171_1; replace hx171_2 := (HB.out.cell (World.block_lt_of_cell? w _ hx171_2)).trans hx171_2; replace hx171_3 := (HB.out.cell (World.block_lt_of_cell? w _ hx171_3)).trans hx171_3; replace hx171_4 := (HB.out.cell (World.block_lt_of_cell? w _ hx171_4)).trans hx171_4; replace hx171_5 := (HB.out.cell (World.block_lt_of_cell? w _ hx171_5)).trans hx171_5; replace hx171_6 := (HB.out.cell (World.block_lt_of_cell? w _ hx171_6)).trans hx171_6; replace hx171_7 := (HB.out.cell (World.block_lt_of_cell? w _ hx171_7)).trans hx171_7; replace hx171_8 := (HB.out.cell (World.block_lt_of_cell? w _ hx171_8)).trans hx171_8; have HR171_8 := Aside0.mk hi171_8; have HC171_8 := Aside0.mk hl171_8; clear hi171_8 hl171_8; replace p171 := eq_true p171; replace q171 := eq_true q171; have ea_ := Option.some.inj (hx169_8.symm.trans hx171_8); injection ea_ with ea_ en_ ec_; subst ea_; subst ec_; clear en_) | (go_at_call 15; (with_reducible refine (secateurtop_in.calls kj48 _ _ t153 ((rd_T44 ((rd_T40 ((rd_T37 l0_0 x5_3).f6) x6_4).f5) x8_5).f6) true _ ?side1 ?side2 A63.out).mono ?_); (case side1 => repeat (first | exact (Kd.R_reads' HO_4.out).2.2 | (with_reducible refine Kd.C_alloc ?_ _) | (with_reducible refine Kd.C_drewN ?_ _) | (with_reducible refine Kd.C_drew ?_))); (case side2 => exact (Kd.R_reads' HO_4.out).2.1); rintro e w' ⟨rfl, ⟨nd, rfl⟩⟩; (try first | exact ⟨rfl, _, World.drewN_drewN _ _ _⟩ | exact ⟨rfl, _, Eq.trans (World.drewN_drewN _ _ _) (congrArg (World.drewN _) (Nat.add_assoc _ _ _))⟩); have p173 : 0 ≤ (x8_5 : Int) := of_decide_eq_true (by first | (with_reducible assumption) | assumption); have q173 : x8_5 < (((rd_T40 ((rd_T37 l0_0 x5_3).f6) x6_4).f5).length : Int) := of_decide_eq_true (by first | (with_reducible assumption) | assumption); obtain ⟨ad173, A173_8, c173_8, e173, hx173_0, hx173_1, hx173_2, hx173_3, hx173_4, hx173_5, hx173_6, hx173_7, hx173_8, hl173_8, hi173_8⟩ := at_T44 HR158_5.out x8_5 p173 q173; obtain rfl : ad160 = ad173 := (by injection e173); replace hx173_0 := (HB.out.cell (World.block_lt_of_cell? w _ hx173_0)).trans hx173_0; replace hx173_1 := (HB.out.cell (World.block_lt_of_cell? w _ hx173_1)).trans hx173_1; replace hx173_2 := (HB.out.cell (World.block_lt_of_cell? w _ hx173_2)).trans hx173_2; replace hx173_3 := (HB.out.cell (World.block_lt_of_cell? w _ hx173_3)).trans hx173_3; replace hx173_4 := (HB.out.cell (World.block_lt_of_cell? w _ hx173_4)).trans hx173_4; replace hx173_5 := (HB.out.cell (World.block_lt_of_cell? w _ hx173_5)).trans hx173_5; replace hx173_6 := (HB.out.cell (World.block_lt_of_cell? w _ hx173_6)).trans hx173_6; replace hx173_7 := (HB.out.cell (World.block_lt_of_cell? w _ hx173_7)).trans hx173_7; replace hx173_8 := (HB.out.cell (World.block_lt_of_cell? w _ hx173_8)).trans hx173_8; have HR173_8 := Aside0.mk hi173_8; have HC173_8 := Aside0.mk hl173_8; clear hi173_8 hl173_8; replace p173 := eq_true p173; replace q173 := eq_true q173; have ea_ := Option.some.inj (hx169_8.symm.trans hx173_8); injection ea_ with ea_ en_ ec_; subst ea_; subst ec_; clear en_) | (go_at_call 15; (with_reducible refine (secateurtop_in.calls kj48 _ _ t153 ((rd_T44 ((rd_T40 ((rd_T37 l0_0 x5_3).f6) x6_4).f5) x8_5).f7) true _ ?side1 ?side2 A65.out).mono ?_); (case side1 => repeat (first | exact (Kd.R_reads' HO_4.out).2.2 | (with_reducible refine Kd.C_alloc ?_ _) | (with_reducible refine Kd.C_drewN ?_ _) | (with_reducible refine Kd.C_drew ?_))); (case side2 => exact (Kd.R_reads' HO_4.out).2.1); rintro e w' ⟨rfl, ⟨nd, rfl⟩⟩; (try first | exact ⟨rfl, _, World.drewN_drewN _ _ _⟩ | exact ⟨rfl, _, Eq.trans (World.drewN_drewN _ _ _) (congrArg (World.drewN _) (Nat.add_assoc _ _ _))⟩))); try go_wp2_with (first | (go_at_call 15; (with_reducible refine (secateurtop_in.calls kj48 _ _ t153 ((rd_T44 ((rd_T40 ((rd_T37 l0_0 x5_3).f6) x6_4).f5) x8_5).f5) true _ ?side1 ?side2 A61.out).mono ?_); (case side1 => repeat (first | exact (Kd.R_reads' HO_4.out).2.2 | (with_reducible refine Kd.C_alloc ?_ _) | (with_reducible refine Kd.C_drewN ?_ _) | (with_reducible refine Kd.C_drew ?_))); (case side2 => exact (Kd.R_reads' HO_4.out).2.1); rintro e w' ⟨rfl, ⟨nd, rfl⟩⟩; (try first | exact ⟨rfl, _, World.drewN_drewN _ _ _⟩ | exact ⟨rfl, _, Eq.trans (World.drewN_drewN _ _ _) (congrArg (World.drewN _) (Nat.add_assoc _ _ _))⟩); have p171 : 0 ≤ (x8_5 : Int) := of_decide_eq_true (by first | (with_reducible assumption) | assumption); have q171 : x8_5 < (((rd_T40 ((rd_T37 l0_0 x5_3).f6) x6_4).f5).length : Int) := of_decide_eq_true (by first | (with_reducible assumption) | assumption); obtain ⟨ad171, A171_8, c171_8, e171, hx171_0, hx171_1, hx171_2, hx171_3, hx171_4, hx171_5, hx171_6, hx171_7, hx171_8, hl171_8, hi171_8⟩ := at_T44 HR158_5.out x8_5 p171 q171; obtain rfl : ad160 = ad171 := (by injection e171); replace hx171_0 := (HB.out.cell (World.block_lt_of_cell? w _ hx171_0)).trans hx171_0; replace hx171_1 := (HB.out.cell (World.block_lt_of_cell? w _ hx171_1)).trans hx171_1; replace hx171_2 := (HB.out.cell (World.block_lt_of_cell? w _ hx171_2)).trans hx171_2; replace hx171_3 := (HB.out.cell (World.block_lt_of_cell? w _ hx171_3)).trans hx171_3; replace hx171_4 := (HB.out.cell (World.block_lt_of_cell? w _ hx171_4)).trans hx171_4; replace hx171_5 := (HB.out.cell (World.block_lt_of_cell? w _ hx171_5)).trans hx171_5; replace hx171_6 := (HB.out.cell (World.block_lt_of_cell? w _ hx171_6)).trans hx171_6; replace hx171_7 := (HB.out.cell (World.block_lt_of_cell? w _ hx171_7)).trans hx171_7; replace hx171_8 := (HB.out.cell (World.block_lt_of_cell? w _ hx171_8)).trans hx171_8; have HR171_8 := Aside0.mk hi171_8; have HC171_8 := Aside0.mk hl171_8; clear hi171_8 hl171_8; replace p171 := eq_true p171; replace q171 := eq_true q171; have ea_ := Option.some.inj (hx169_8.symm.trans hx171_8); injection ea_ with ea_ en_ ec_; subst ea_; subst ec_; clear en_) | (go_at_call 15; (with_reducible refine (secateurtop_in.calls kj48 _ _ t153 ((rd_T44 ((rd_T40 ((rd_T37 l0_0 x5_3).f6) x6_4).f5) x8_5).f6) true _ ?side1 ?side2 A63.out).mono ?_); (case side1 => repeat (first | exact (Kd.R_reads' HO_4.out).2.2 | (with_reducible refine Kd.C_alloc ?_ _) | (with_reducible refine Kd.C_drewN ?_ _) | (with_reducible refine Kd.C_drew ?_))); (case side2 => exact (Kd.R_reads' HO_4.out).2.1); rintro e w' ⟨rfl, ⟨nd, rfl⟩⟩; (try first | exact ⟨rfl, _, World.drewN_drewN _ _ _⟩ | exact ⟨rfl, _, Eq.trans (World.drewN_drewN _ _ _) (congrArg (World.drewN _) (Nat.add_assoc _ _ _))⟩); have p173 : 0 ≤ (x8_5 : Int) := of_decide_eq_true (by first | (with_reducible assumption) | assumption); have q173 : x8_5 < (((rd_T40 ((rd_T37 l0_0 x5_3).f6) x6_4).f5).length : Int) := of_decide_eq_true (by first | (with_reducible assumption) | assumption); obtain ⟨ad173, A173_8, c173_8, e173, hx173_0, hx173_1, hx173_2, hx173_3, hx173_4, hx173_5, hx173_6, hx173_7, hx173_8, hl173_8, hi173_8⟩ := at_T44 HR158_5.out x8_5 p173 q173; obtain rfl : ad160 = ad173 := (by injection e173); replace hx173_0 := (HB.out.cell (World.block_lt_of_cell? w _ hx173_0)).trans hx173_0; replace hx173_1 := (HB.out.cell (World.block_lt_of_cell? w _ hx173_1)).trans hx173_1; replace hx173_2 := (HB.out.cell (World.block_lt_of_cell? w _ hx173_2)).trans hx173_2; replace hx173_3 := (HB.out.cell (World.block_lt_of_cell? w _ hx173_3)).trans hx173_3; replace hx173_4 := (HB.out.cell (World.block_lt_of_cell? w _ hx173_4)).trans hx173_4; replace hx173_5 := (HB.out.cell (World.block_lt_of_cell? w _ hx173_5)).trans hx173_5; replace hx173_6 := (HB.out.cell (World.block_lt_of_cell? w _ hx173_6)).trans hx173_6; replace hx173_7 := (HB.out.cell (World.block_lt_of_cell? w _ hx173_7)).trans hx173_7; replace hx173_8 := (HB.out.cell (World.block_lt_of_cell? w _ hx173_8)).trans hx173_8; have HR173_8 := Aside0.mk hi173_8; have HC173_8 := Aside0.mk hl173_8; clear hi173_8 hl173_8; replace p173 := eq_true p173; replace q173 := eq_true q173; have ea_ := Option.some.inj (hx169_8.symm.trans hx173_8); injection ea_ with ea_ en_ ec_; subst ea_; subst ec_; clear en_) | (go_at_call 15; (with_reducible refine (secateurtop_in.calls kj48 _ _ t153 ((rd_T44 ((rd_T40 ((rd_T37 l0_0 x5_3).f6) x6_4).f5) x8_5).f7) true _ ?side1 ?side2 A65.out).mono ?_); (case side1 => repeat (first | exact (Kd.R_reads' HO_4.out).2.2 | (with_reducible refine Kd.C_alloc ?_ _) | (with_reducible refine Kd.C_drewN ?_ _) | (with_reducible refine Kd.C_drew ?_))); (case side2 => exact (Kd.R_reads' HO_4.out).2.1); rintro e w' ⟨rfl, ⟨nd, rfl⟩⟩; (try first | exact ⟨rfl, _, World.drewN_drewN _ _ _⟩ | exact ⟨rfl, _, Eq.trans (World.drewN_drewN _ _ _) (congrArg (World.drewN _) (Nat.add_assoc _ _ _))⟩))))
                                                                go_roundg kj48
                                                                case measure => have := HJ1.out; have := HJ8.out; have := HK3.out; have := HK4.out; have := HK5.out; have := HK6.out; have := HJ48.out; omega
                                                                case rel => exact ⟨(wrap64 (x8_5 + 1)), (by first | rfl | (simp; done) | (simp [*]; done) | (exfalso; simp only [beq_iff_eq] at *; omega)), H', ⟨by have := HJ1.out; have := HJ8.out; have := HK3.out; have := HK4.out; have := HK5.out; have := HK6.out; have := HJ48.out; omega⟩, ⟨by (with_reducible repeat (first | apply Kd.R_alloc | apply Kd.R_drewN | apply Kd.R_drew)); exact HO_4.out⟩, ⟨by (with_reducible repeat (first | refine blk_drewN ?_ _ | refine blk_drew ?_ | refine blk_alloc ?_ _)); exact BK148.out⟩, ⟨by (with_reducible repeat (first | refine blk_drewN ?_ _ | refine blk_drew ?_ | refine blk_alloc ?_ _)); exact BK159.out⟩, ⟨by repeat (first | (with_reducible first | exact HB.out | apply below_alloc | apply pw_below_drewN | apply below_drew1 | refine below_set ?_ GE148.out | refine below_set ?_ GE159.out) | exact HB.out)⟩⟩
                                                              · replace c66 := Bool.eq_false_iff.mpr c66
                                                                subst c66
                                                                have H1 : (some false) = some r := by rw [if_neg (show ¬ (false = true) by decide)] at H; exact H
                                                                clear H
                                                                have H := H1
                                                                clear H1
                                                                obtain rfl := Option.some.inj H
                                                                cases HRT.out
                                                            · replace c64 := Bool.eq_false_iff.mpr c64
                                                              subst c64
                                                              have H1 : (some false) = some r := by rw [if_neg (show ¬ (false = true) by decide)] at H; exact H
                                                              clear H
                                                              have H := H1
                                                              clear H1
                                                              obtain rfl := Option.some.inj H
                                                              cases HRT.out
                                                          · replace c62 := Bool.eq_false_iff.mpr c62
                                                            subst c62
                                                            have H1 : (some false) = some r := by rw [if_neg (show ¬ (false = true) by decide)] at H; exact H
                                                            clear H
                                                            have H := H1
                                                            clear H1
                                                            obtain rfl := Option.some.inj H
                                                            cases HRT.out
                                                        · rw [if_neg c60] at H
                                                          exact absurd H (by simp)
                                                      · rw [if_neg c59] at H
                                                        exact absurd H (by simp)
                                              · rw [if_neg c47] at H
                                                exact absurd H (by simp)
                                            · rw [if_neg c46] at H
                                              exact absurd H (by simp)
                                    · rw [if_neg c34] at H
                                      exact absurd H (by simp)
                                  · rw [if_neg c33] at H
                                    have c33b0 : decide (x8_5 < (((rd_T40 ((rd_T37 l0_0 x5_3).f6) x6_4).f5).length : Int)) = false := decide_eq_false c33
                                    clear c33
                                    have H' := Aside0.mk H
                                    clear H
                                    have hnb70 := NB159_148.out
                                    have hnc70 := NB148_159.out
                                    have hcz71_0 : wr.cell? ⟨gb159, 0, none⟩ = some (.string ((rd_T40 ((rd_T37 l0_0 x5_3).f6) x6_4).f0)) := (blk_cell BK159.out 0).trans rfl
                                    have hcz71_1 : wr.cell? ⟨gb159, 1, none⟩ = some (.string ((rd_T40 ((rd_T37 l0_0 x5_3).f6) x6_4).f1)) := (blk_cell BK159.out 1).trans rfl
                                    have hcz71_2 : wr.cell? ⟨gb159, 2, none⟩ = some (.bool ((rd_T40 ((rd_T37 l0_0 x5_3).f6) x6_4).f2)) := (blk_cell BK159.out 2).trans rfl
                                    have hcz71_3 : wr.cell? ⟨gb159, 3, none⟩ = some (.bool ((rd_T40 ((rd_T37 l0_0 x5_3).f6) x6_4).f3)) := (blk_cell BK159.out 3).trans rfl
                                    have hcz71_4 : wr.cell? ⟨gb159, 4, none⟩ = some (.int .i64 ((rd_T40 ((rd_T37 l0_0 x5_3).f6) x6_4).f4)) := (blk_cell BK159.out 4).trans rfl
                                    have hcz71_5 : wr.cell? ⟨gb159, 5, none⟩ = some (.slice A158_5 ((rd_T40 ((rd_T37 l0_0 x5_3).f6) x6_4).f5).length c158_5) := (blk_cell BK159.out 5).trans rfl
                                    have hfz71_0 := blk_frozen BK159.out 0
                                    have hfz71_1 := blk_frozen BK159.out 1
                                    have hfz71_2 := blk_frozen BK159.out 2
                                    have hfz71_3 := blk_frozen BK159.out 3
                                    have hfz71_4 := blk_frozen BK159.out 4
                                    have hfz71_5 := blk_frozen BK159.out 5
                                    go_wp2
                                    repeat (go_quiet (fail); try go_wp2)
                                    go_roundg k5
                                    case measure => have := HJ1.out; have := HJ8.out; have := HK3.out; have := HK4.out; have := HK5.out; omega
                                    case rel => exact ⟨(wrap64 (x6_4 + 1)), (by first | rfl | (simp; done) | (simp [*]; done) | (exfalso; simp only [beq_iff_eq] at *; omega)), H', ⟨by have := HJ1.out; have := HJ8.out; have := HK3.out; have := HK4.out; have := HK5.out; omega⟩, ⟨by (with_reducible repeat (first | apply Kd.R_alloc | apply Kd.R_drewN | apply Kd.R_drew)); exact HO_4.out⟩, ⟨by (with_reducible repeat (first | refine blk_drewN ?_ _ | refine blk_drew ?_ | refine blk_alloc ?_ _)); exact BK148.out⟩, ⟨by repeat (first | (with_reducible first | exact HB.out | apply below_alloc | apply pw_below_drewN | apply below_drew1 | refine below_set ?_ GE148.out | refine below_set ?_ GE159.out) | exact HB.out)⟩⟩
                            · rw [if_neg c28] at H
                              exact absurd H (by simp)
                          · rw [if_neg c27] at H
                            have c27b0 : decide (x6_4 < (((rd_T37 l0_0 x5_3).f6).length : Int)) = false := decide_eq_false c27
                            clear c27
                            have H' := Aside0.mk H
                            clear H
                            have hcz72_0 : wr.cell? ⟨gb148, 0, none⟩ = some (.slice A0_0 l0_0.length c0_0) := (blk_cell BK148.out 0).trans rfl
                            have hcz72_1 : wr.cell? ⟨gb148, 1, none⟩ = some (.slice A0_1 l0_1.length c0_1) := (blk_cell BK148.out 1).trans rfl
                            have hcz72_2 : wr.cell? ⟨gb148, 2, none⟩ = some (.string a0_2) := (blk_cell BK148.out 2).trans rfl
                            have hcz72_3 : wr.cell? ⟨gb148, 3, none⟩ = some (.string a0_3) := (blk_cell BK148.out 3).trans rfl
                            have hcz72_4 : wr.cell? ⟨gb148, 4, none⟩ = some (.string a0_4) := (blk_cell BK148.out 4).trans rfl
                            have hfz72_0 := blk_frozen BK148.out 0
                            have hfz72_1 := blk_frozen BK148.out 1
                            have hfz72_2 := blk_frozen BK148.out 2
                            have hfz72_3 := blk_frozen BK148.out 3
                            have hfz72_4 := blk_frozen BK148.out 4
                            have p156 : 0 ≤ (x5_3 : Int) := of_decide_eq_true (by first | (with_reducible assumption) | assumption)
                            have q156 : x5_3 < (l0_0.length : Int) := of_decide_eq_true (by first | (with_reducible assumption) | assumption)
                            obtain ⟨ad156, A156_4, c156_4, A156_5, c156_5, A156_6, c156_6, e156, hx156_0, hx156_1, hx156_2, hx156_3, hx156_4, hx156_5, hx156_6, hl156_4, hi156_4, hl156_5, hi156_5, hl156_6, hi156_6⟩ := at_T37 HR0_0.out x5_3 p156 q156
                            cases e156
                            replace hx156_0 := (HB.out.cell (World.block_lt_of_cell? w _ hx156_0)).trans hx156_0
                            replace hx156_1 := (HB.out.cell (World.block_lt_of_cell? w _ hx156_1)).trans hx156_1
                            replace hx156_2 := (HB.out.cell (World.block_lt_of_cell? w _ hx156_2)).trans hx156_2
                            replace hx156_3 := (HB.out.cell (World.block_lt_of_cell? w _ hx156_3)).trans hx156_3
                            replace hx156_4 := (HB.out.cell (World.block_lt_of_cell? w _ hx156_4)).trans hx156_4
                            replace hx156_5 := (HB.out.cell (World.block_lt_of_cell? w _ hx156_5)).trans hx156_5
                            replace hx156_6 := (HB.out.cell (World.block_lt_of_cell? w _ hx156_6)).trans hx156_6
                            have HR156_4 := Aside0.mk hi156_4
                            have HC156_4 := Aside0.mk hl156_4
                            clear hi156_4 hl156_4
                            have HR156_5 := Aside0.mk hi156_5
                            have HC156_5 := Aside0.mk hl156_5
                            clear hi156_5 hl156_5
                            have HR156_6 := Aside0.mk hi156_6
                            have HC156_6 := Aside0.mk hl156_6
                            clear hi156_6 hl156_6
                            replace p156 := eq_true p156
                            replace q156 := eq_true q156
                            go_wp2
                            repeat (go_quiet (fail); try go_wp2)
                            go_roundg k4
                            case measure => have := HJ1.out; have := HJ8.out; have := HK3.out; have := HK4.out; omega
                            case rel => exact ⟨(wrap64 (x5_3 + 1)), (by first | rfl | (simp; done) | (simp [*]; done) | (exfalso; simp only [beq_iff_eq] at *; omega)), H', ⟨by have := HJ1.out; have := HJ8.out; have := HK3.out; have := HK4.out; omega⟩, ⟨by (with_reducible repeat (first | apply Kd.R_alloc | apply Kd.R_drewN | apply Kd.R_drew)); exact HO_4.out⟩, ⟨by (with_reducible repeat (first | refine blk_drewN ?_ _ | refine blk_drew ?_ | refine blk_alloc ?_ _)); exact BK148.out⟩, ⟨by repeat (first | (with_reducible first | exact HB.out | apply below_alloc | apply pw_below_drewN | apply below_drew1 | refine below_set ?_ GE148.out) | exact HB.out)⟩⟩
                        · rw [if_neg c26] at H
                          exact absurd H (by simp)
                      · rw [if_neg c25] at H
                        exact absurd H (by simp)
                · rw [if_neg c23] at H
                  have c23b0 : decide (x5_3 < (l0_0.length : Int)) = false := decide_eq_false c23
                  clear c23
                  obtain rfl := Option.some.inj H
                  simp only [Option.some.injEq, Prod.mk.injEq] at H
                  obtain ⟨rfl⟩ := H
                  have hcz73_0 : wr.cell? ⟨gb148, 0, none⟩ = some (.slice A0_0 l0_0.length c0_0) := (blk_cell BK148.out 0).trans rfl
                  have hcz73_1 : wr.cell? ⟨gb148, 1, none⟩ = some (.slice A0_1 l0_1.length c0_1) := (blk_cell BK148.out 1).trans rfl
                  have hcz73_2 : wr.cell? ⟨gb148, 2, none⟩ = some (.string a0_2) := (blk_cell BK148.out 2).trans rfl
                  have hcz73_3 : wr.cell? ⟨gb148, 3, none⟩ = some (.string a0_3) := (blk_cell BK148.out 3).trans rfl
                  have hcz73_4 : wr.cell? ⟨gb148, 4, none⟩ = some (.string a0_4) := (blk_cell BK148.out 4).trans rfl
                  have hfz73_0 := blk_frozen BK148.out 0
                  have hfz73_1 := blk_frozen BK148.out 1
                  have hfz73_2 := blk_frozen BK148.out 2
                  have hfz73_3 := blk_frozen BK148.out 3
                  have hfz73_4 := blk_frozen BK148.out 4
                  go_wp2
                  repeat (go_quiet (fail); try go_wp2)
                  go_ret
                  exact ⟨by first | rfl | (simp [errW_none, errW_some] <;> rfl) | (simp [*, errW_none, errW_some] <;> rfl), by repeat (first | (with_reducible first | exact HB.out | apply below_alloc | apply pw_below_drewN | apply below_drew1 | refine below_set ?_ GE148.out) | exact HB.out)⟩

def secateurtop_TopCodes.f (k : Nat) (l0_0 : List (S37)) (l0_1 : List ByteArray) (a0_2 : ByteArray) (a0_3 : ByteArray) (a0_4 : ByteArray) : Option (Bool) := (secateurtop_TopCodes.g k l0_0 l0_1 a0_2 a0_3 a0_4).bind fun r_ => if r_ = true then some true else none
theorem secateurtop_TopCodes.mono : ∀ a0 a1 a2 a3 a4 k, LeO (secateurtop_TopCodes.f k a0 a1 a2 a3 a4) (secateurtop_TopCodes.f (k + 1) a0 a1 a2 a3 a4) := by
  intro a0 a1 a2 a3 a4 k
  unfold secateurtop_TopCodes.f
  exact LeO.bind (secateurtop_TopCodes.gmono a0 a1 a2 a3 a4 k) (fun _ => LeO.refl _)
theorem secateurtop_TopCodes.calls (k : Nat) (A0_0 : Option Addr) (c0_0 : Nat) (l0_0 : List (S37)) (A0_1 : Option Addr) (c0_1 : Nat) (l0_1 : List ByteArray) (a0_2 : ByteArray) (a0_3 : ByteArray) (a0_4 : ByteArray) (r : Bool) (w : World) (hG : GW w) (hr0_0 : Kd.C k37 w A0_0 l0_0.length l0_0) (hc0_0 : l0_0.length ≤ c0_0) (hr0_1 : Kd.C Kd.string w A0_1 l0_1.length l0_1) (hc0_1 : l0_1.length ≤ c0_1) (h : secateurtop_TopCodes.f k l0_0 l0_1 a0_2 a0_3 a0_4 = some r) :
    Calls Tryd.prog 3 #[.agg #[.slice A0_0 l0_0.length c0_0, .slice A0_1 l0_1.length c0_1, .string a0_2, .string a0_3, .string a0_4]] w fun e w' => e = .returned (.bool r) ∧ Below w.heap.size w w' := by
  obtain ⟨r_, h1, h2⟩ := Option.bind_eq_some_iff.mp h
  split at h2
  · rename_i hr_
    obtain rfl := Option.some.inj h2
    subst hr_
    exact secateurtop_TopCodes.gcalls k A0_0 c0_0 l0_0 A0_1 c0_1 l0_1 a0_2 a0_3 a0_4 _ w hG hr0_0 hc0_0 hr0_1 hc0_1 h1 rfl
  · cases h2
end Go.Proofs.YtmamaijiphdggaaDoor.PTop
