/- Part of a proof of this seat's statements: plain functions, contracts and rows, written by a program (the kit's printer, some functions given by hand) out of the translation; no conditions of its own. -/
import Derived.Test.YtmamaijiphdggaaDoorPTopx0
namespace Go.Proofs.YtmamaijiphdggaaDoor.PTop
open Go.RowKit Go.Proofs.YtmamaijiphdggaaDoor.Given Go.Proofs.YtmamaijiphdggaaDoorW.PrintWords Go.Proofs.YtmamaijiphdggaaDoorW.PrintLast Go.Proofs.YtmamaijiphdggaaDoorW.PrintMore
attribute [local go_sem] max2_int min2_int max_two min_two max_three min_three max_four min_four   -- for this text's walks alone
set_option linter.unusedVariables false
set_option linter.unusedSimpArgs false

/-! ### secateurlaw08_Great: function 11 -/
mutual
def secateurlaw08_Great.j0 : Nat → Bool → List (S37) → List ByteArray → ByteArray → ByteArray → ByteArray → Option (Bool)
  | 0, _, _, _, _, _, _ => none
  | k + 1, x17, x109000, x109001, x109002, x109003, x109004 => if x17 = true then (some true) else (secateurlaw08_Great.l0 k 0 x109000 x109001 x109002 x109003 x109004)
def secateurlaw08_Great.l0 : Nat → Int → List (S37) → List ByteArray → ByteArray → ByteArray → ByteArray → Option (Bool)
  | 0, _, _, _, _, _, _ => none
  | k + 1, x3, x109000, x109001, x109002, x109003, x109004 => if x3 < (x109000.length : Int) then (if 0 ≤ x3 then (if (((rd_T37 x109000 x3).f4).length : Int) > 40 then (secateurlaw08_Great.j2 k x3 true x109000 x109001 x109002 x109003 x109004 ((rd_T37 x109000 x3).f0) ((rd_T37 x109000 x3).f1) ((rd_T37 x109000 x3).f2) ((rd_T37 x109000 x3).f3) ((rd_T37 x109000 x3).f4) ((rd_T37 x109000 x3).f5) ((rd_T37 x109000 x3).f6)) else (if (((rd_T37 x109000 x3).f5).length : Int) > 40 then (secateurlaw08_Great.j2 k x3 true x109000 x109001 x109002 x109003 x109004 ((rd_T37 x109000 x3).f0) ((rd_T37 x109000 x3).f1) ((rd_T37 x109000 x3).f2) ((rd_T37 x109000 x3).f3) ((rd_T37 x109000 x3).f4) ((rd_T37 x109000 x3).f5) ((rd_T37 x109000 x3).f6)) else (if (((rd_T37 x109000 x3).f6).length : Int) > 40 then (secateurlaw08_Great.j2 k x3 true x109000 x109001 x109002 x109003 x109004 ((rd_T37 x109000 x3).f0) ((rd_T37 x109000 x3).f1) ((rd_T37 x109000 x3).f2) ((rd_T37 x109000 x3).f3) ((rd_T37 x109000 x3).f4) ((rd_T37 x109000 x3).f5) ((rd_T37 x109000 x3).f6)) else (if (((rd_T37 x109000 x3).f0).size : Int) > 300 then (secateurlaw08_Great.j2 k x3 true x109000 x109001 x109002 x109003 x109004 ((rd_T37 x109000 x3).f0) ((rd_T37 x109000 x3).f1) ((rd_T37 x109000 x3).f2) ((rd_T37 x109000 x3).f3) ((rd_T37 x109000 x3).f4) ((rd_T37 x109000 x3).f5) ((rd_T37 x109000 x3).f6)) else (secateurlaw08_Great.j2 k x3 (decide ((((rd_T37 x109000 x3).f1).size : Int) > 300)) x109000 x109001 x109002 x109003 x109004 ((rd_T37 x109000 x3).f0) ((rd_T37 x109000 x3).f1) ((rd_T37 x109000 x3).f2) ((rd_T37 x109000 x3).f3) ((rd_T37 x109000 x3).f4) ((rd_T37 x109000 x3).f5) ((rd_T37 x109000 x3).f6)))))) else (none)) else (some false)
def secateurlaw08_Great.j2 : Nat → Int → Bool → List (S37) → List ByteArray → ByteArray → ByteArray → ByteArray → ByteArray → ByteArray → Bool → Bool → List ByteArray → List (S83) → List (S40) → Option (Bool)
  | 0, _, _, _, _, _, _, _, _, _, _, _, _, _, _ => none
  | k + 1, x3, x57, x109000, x109001, x109002, x109003, x109004, x111000, x111001, x111002, x111003, x111004, x111005, x111006 => if x57 = true then (some true) else (secateurlaw08_Great.l1 k x3 0 x109000 x109001 x109002 x109003 x109004 x111000 x111001 x111002 x111003 x111004 x111005 x111006)
def secateurlaw08_Great.l1 : Nat → Int → Int → List (S37) → List ByteArray → ByteArray → ByteArray → ByteArray → ByteArray → ByteArray → Bool → Bool → List ByteArray → List (S83) → List (S40) → Option (Bool)
  | 0, _, _, _, _, _, _, _, _, _, _, _, _, _, _ => none
  | k + 1, x3, x5, x109000, x109001, x109002, x109003, x109004, x111000, x111001, x111002, x111003, x111004, x111005, x111006 => if x5 < (x111006.length : Int) then (if 0 ≤ x5 then (if (((rd_T40 x111006 x5).f5).length : Int) > 300 then (secateurlaw08_Great.j4 k x3 x5 true x109000 x109001 x109002 x109003 x109004 x111000 x111001 x111002 x111003 x111004 x111005 x111006 ((rd_T40 x111006 x5).f0) ((rd_T40 x111006 x5).f1) ((rd_T40 x111006 x5).f2) ((rd_T40 x111006 x5).f3) ((rd_T40 x111006 x5).f4) ((rd_T40 x111006 x5).f5)) else (if (((rd_T40 x111006 x5).f0).size : Int) > 300 then (secateurlaw08_Great.j4 k x3 x5 true x109000 x109001 x109002 x109003 x109004 x111000 x111001 x111002 x111003 x111004 x111005 x111006 ((rd_T40 x111006 x5).f0) ((rd_T40 x111006 x5).f1) ((rd_T40 x111006 x5).f2) ((rd_T40 x111006 x5).f3) ((rd_T40 x111006 x5).f4) ((rd_T40 x111006 x5).f5)) else (secateurlaw08_Great.j4 k x3 x5 (decide ((((rd_T40 x111006 x5).f1).size : Int) > 300)) x109000 x109001 x109002 x109003 x109004 x111000 x111001 x111002 x111003 x111004 x111005 x111006 ((rd_T40 x111006 x5).f0) ((rd_T40 x111006 x5).f1) ((rd_T40 x111006 x5).f2) ((rd_T40 x111006 x5).f3) ((rd_T40 x111006 x5).f4) ((rd_T40 x111006 x5).f5)))) else (none)) else (secateurlaw08_Great.l0 k (wrap64 (x3 + 1)) x109000 x109001 x109002 x109003 x109004)
def secateurlaw08_Great.j4 : Nat → Int → Int → Bool → List (S37) → List ByteArray → ByteArray → ByteArray → ByteArray → ByteArray → ByteArray → Bool → Bool → List ByteArray → List (S83) → List (S40) → ByteArray → ByteArray → Bool → Bool → Int → List (S44) → Option (Bool)
  | 0, _, _, _, _, _, _, _, _, _, _, _, _, _, _, _, _, _, _, _, _, _ => none
  | k + 1, x3, x5, x85, x109000, x109001, x109002, x109003, x109004, x111000, x111001, x111002, x111003, x111004, x111005, x111006, x113000, x113001, x113002, x113003, x113004, x113005 => if x85 = true then (some true) else (secateurlaw08_Great.l2 k x3 x5 0 x109000 x109001 x109002 x109003 x109004 x111000 x111001 x111002 x111003 x111004 x111005 x111006 x113000 x113001 x113002 x113003 x113004 x113005)
def secateurlaw08_Great.l2 : Nat → Int → Int → Int → List (S37) → List ByteArray → ByteArray → ByteArray → ByteArray → ByteArray → ByteArray → Bool → Bool → List ByteArray → List (S83) → List (S40) → ByteArray → ByteArray → Bool → Bool → Int → List (S44) → Option (Bool)
  | 0, _, _, _, _, _, _, _, _, _, _, _, _, _, _, _, _, _, _, _, _, _ => none
  | k + 1, x3, x5, x7, x109000, x109001, x109002, x109003, x109004, x111000, x111001, x111002, x111003, x111004, x111005, x111006, x113000, x113001, x113002, x113003, x113004, x113005 => if x7 < (x113005.length : Int) then (if 0 ≤ x7 then (if (((rd_T44 x113005 x7).f8).length : Int) > 60 then (some true) else (if (((rd_T44 x113005 x7).f5).size : Int) > 300 then (some true) else (if (((rd_T44 x113005 x7).f6).size : Int) > 300 then (some true) else (if (((rd_T44 x113005 x7).f7).size : Int) > 300 then (some true) else (secateurlaw08_Great.l2 k x3 x5 (wrap64 (x7 + 1)) x109000 x109001 x109002 x109003 x109004 x111000 x111001 x111002 x111003 x111004 x111005 x111006 x113000 x113001 x113002 x113003 x113004 x113005))))) else (none)) else (secateurlaw08_Great.l1 k x3 (wrap64 (x5 + 1)) x109000 x109001 x109002 x109003 x109004 x111000 x111001 x111002 x111003 x111004 x111005 x111006)
end
def secateurlaw08_Great.f (k : Nat) (l0_0 : List (S37)) (l0_1 : List ByteArray) (a0_2 : ByteArray) (a0_3 : ByteArray) (a0_4 : ByteArray) : Option (Bool) := if (l0_0.length : Int) > 70 then (secateurlaw08_Great.j0 k true l0_0 l0_1 a0_2 a0_3 a0_4) else (secateurlaw08_Great.j0 k (decide ((l0_1.length : Int) > 70)) l0_0 l0_1 a0_2 a0_3 a0_4)
theorem secateurlaw08_Great.mono_l : ∀ k, (∀ y0 y1 y2 y3 y4 y5, LeO (secateurlaw08_Great.j0 k y0 y1 y2 y3 y4 y5) (secateurlaw08_Great.j0 (k + 1) y0 y1 y2 y3 y4 y5)) ∧ (∀ y0 y1 y2 y3 y4 y5, LeO (secateurlaw08_Great.l0 k y0 y1 y2 y3 y4 y5) (secateurlaw08_Great.l0 (k + 1) y0 y1 y2 y3 y4 y5)) ∧ (∀ y0 y1 y2 y3 y4 y5 y6 y7 y8 y9 y10 y11 y12 y13, LeO (secateurlaw08_Great.j2 k y0 y1 y2 y3 y4 y5 y6 y7 y8 y9 y10 y11 y12 y13) (secateurlaw08_Great.j2 (k + 1) y0 y1 y2 y3 y4 y5 y6 y7 y8 y9 y10 y11 y12 y13)) ∧ (∀ y0 y1 y2 y3 y4 y5 y6 y7 y8 y9 y10 y11 y12 y13, LeO (secateurlaw08_Great.l1 k y0 y1 y2 y3 y4 y5 y6 y7 y8 y9 y10 y11 y12 y13) (secateurlaw08_Great.l1 (k + 1) y0 y1 y2 y3 y4 y5 y6 y7 y8 y9 y10 y11 y12 y13)) ∧ (∀ y0 y1 y2 y3 y4 y5 y6 y7 y8 y9 y10 y11 y12 y13 y14 y15 y16 y17 y18 y19 y20, LeO (secateurlaw08_Great.j4 k y0 y1 y2 y3 y4 y5 y6 y7 y8 y9 y10 y11 y12 y13 y14 y15 y16 y17 y18 y19 y20) (secateurlaw08_Great.j4 (k + 1) y0 y1 y2 y3 y4 y5 y6 y7 y8 y9 y10 y11 y12 y13 y14 y15 y16 y17 y18 y19 y20)) ∧ (∀ y0 y1 y2 y3 y4 y5 y6 y7 y8 y9 y10 y11 y12 y13 y14 y15 y16 y17 y18 y19 y20, LeO (secateurlaw08_Great.l2 k y0 y1 y2 y3 y4 y5 y6 y7 y8 y9 y10 y11 y12 y13 y14 y15 y16 y17 y18 y19 y20) (secateurlaw08_Great.l2 (k + 1) y0 y1 y2 y3 y4 y5 y6 y7 y8 y9 y10 y11 y12 y13 y14 y15 y16 y17 y18 y19 y20))
  | 0 => ⟨fun _ _ _ _ _ _ r h => by simp [secateurlaw08_Great.j0] at h, fun _ _ _ _ _ _ r h => by simp [secateurlaw08_Great.l0] at h, fun _ _ _ _ _ _ _ _ _ _ _ _ _ _ r h => by simp [secateurlaw08_Great.j2] at h, fun _ _ _ _ _ _ _ _ _ _ _ _ _ _ r h => by simp [secateurlaw08_Great.l1] at h, fun _ _ _ _ _ _ _ _ _ _ _ _ _ _ _ _ _ _ _ _ _ r h => by simp [secateurlaw08_Great.j4] at h, fun _ _ _ _ _ _ _ _ _ _ _ _ _ _ _ _ _ _ _ _ _ r h => by simp [secateurlaw08_Great.l2] at h⟩
  | k + 1 => by
    obtain ⟨ih0, ih1, ih2, ih3, ih4, ih5⟩ := secateurlaw08_Great.mono_l k
    refine ⟨?_, ?_, ?_, ?_, ?_, ?_⟩
    · intro y0 y1 y2 y3 y4 y5
      unfold secateurlaw08_Great.j0
      repeat' first
      | (with_reducible exact ih0 _ _ _ _ _ _)
      | (with_reducible exact ih1 _ _ _ _ _ _)
      | (with_reducible exact ih2 _ _ _ _ _ _ _ _ _ _ _ _ _ _)
      | (with_reducible exact ih3 _ _ _ _ _ _ _ _ _ _ _ _ _ _)
      | (with_reducible exact ih4 _ _ _ _ _ _ _ _ _ _ _ _ _ _ _ _ _ _ _ _ _)
      | (with_reducible exact ih5 _ _ _ _ _ _ _ _ _ _ _ _ _ _ _ _ _ _ _ _ _)
      | (with_reducible exact LeO.refl _)
      | (with_reducible exact LeO.none _)
      | (with_reducible refine LeO.ite ?_ ?_)
      | (with_reducible refine LeO.bind ?_ (fun _ => ?_))
      | exact ih0 _ _ _ _ _ _
      | exact ih1 _ _ _ _ _ _
      | exact ih2 _ _ _ _ _ _ _ _ _ _ _ _ _ _
      | exact ih3 _ _ _ _ _ _ _ _ _ _ _ _ _ _
      | exact ih4 _ _ _ _ _ _ _ _ _ _ _ _ _ _ _ _ _ _ _ _ _
      | exact ih5 _ _ _ _ _ _ _ _ _ _ _ _ _ _ _ _ _ _ _ _ _
      | exact LeO.none _
      | refine LeO.ite ?_ ?_
      | refine LeO.bind ?_ (fun _ => ?_)
    · intro y0 y1 y2 y3 y4 y5
      unfold secateurlaw08_Great.l0
      repeat' first
      | (with_reducible exact ih0 _ _ _ _ _ _)
      | (with_reducible exact ih1 _ _ _ _ _ _)
      | (with_reducible exact ih2 _ _ _ _ _ _ _ _ _ _ _ _ _ _)
      | (with_reducible exact ih3 _ _ _ _ _ _ _ _ _ _ _ _ _ _)
      | (with_reducible exact ih4 _ _ _ _ _ _ _ _ _ _ _ _ _ _ _ _ _ _ _ _ _)
      | (with_reducible exact ih5 _ _ _ _ _ _ _ _ _ _ _ _ _ _ _ _ _ _ _ _ _)
      | (with_reducible exact LeO.refl _)
      | (with_reducible exact LeO.none _)
      | (with_reducible refine LeO.ite ?_ ?_)
      | (with_reducible refine LeO.bind ?_ (fun _ => ?_))
      | exact ih0 _ _ _ _ _ _
      | exact ih1 _ _ _ _ _ _
      | exact ih2 _ _ _ _ _ _ _ _ _ _ _ _ _ _
      | exact ih3 _ _ _ _ _ _ _ _ _ _ _ _ _ _
      | exact ih4 _ _ _ _ _ _ _ _ _ _ _ _ _ _ _ _ _ _ _ _ _
      | exact ih5 _ _ _ _ _ _ _ _ _ _ _ _ _ _ _ _ _ _ _ _ _
      | exact LeO.none _
      | refine LeO.ite ?_ ?_
      | refine LeO.bind ?_ (fun _ => ?_)
    · intro y0 y1 y2 y3 y4 y5 y6 y7 y8 y9 y10 y11 y12 y13
      unfold secateurlaw08_Great.j2
      repeat' first
      | (with_reducible exact ih0 _ _ _ _ _ _)
      | (with_reducible exact ih1 _ _ _ _ _ _)
      | (with_reducible exact ih2 _ _ _ _ _ _ _ _ _ _ _ _ _ _)
      | (with_reducible exact ih3 _ _ _ _ _ _ _ _ _ _ _ _ _ _)
      | (with_reducible exact ih4 _ _ _ _ _ _ _ _ _ _ _ _ _ _ _ _ _ _ _ _ _)
      | (with_reducible exact ih5 _ _ _ _ _ _ _ _ _ _ _ _ _ _ _ _ _ _ _ _ _)
      | (with_reducible exact LeO.refl _)
      | (with_reducible exact LeO.none _)
      | (with_reducible refine LeO.ite ?_ ?_)
      | (with_reducible refine LeO.bind ?_ (fun _ => ?_))
      | exact ih0 _ _ _ _ _ _
      | exact ih1 _ _ _ _ _ _
      | exact ih2 _ _ _ _ _ _ _ _ _ _ _ _ _ _
      | exact ih3 _ _ _ _ _ _ _ _ _ _ _ _ _ _
      | exact ih4 _ _ _ _ _ _ _ _ _ _ _ _ _ _ _ _ _ _ _ _ _
      | exact ih5 _ _ _ _ _ _ _ _ _ _ _ _ _ _ _ _ _ _ _ _ _
      | exact LeO.none _
      | refine LeO.ite ?_ ?_
      | refine LeO.bind ?_ (fun _ => ?_)
    · intro y0 y1 y2 y3 y4 y5 y6 y7 y8 y9 y10 y11 y12 y13
      unfold secateurlaw08_Great.l1
      repeat' first
      | (with_reducible exact ih0 _ _ _ _ _ _)
      | (with_reducible exact ih1 _ _ _ _ _ _)
      | (with_reducible exact ih2 _ _ _ _ _ _ _ _ _ _ _ _ _ _)
      | (with_reducible exact ih3 _ _ _ _ _ _ _ _ _ _ _ _ _ _)
      | (with_reducible exact ih4 _ _ _ _ _ _ _ _ _ _ _ _ _ _ _ _ _ _ _ _ _)
      | (with_reducible exact ih5 _ _ _ _ _ _ _ _ _ _ _ _ _ _ _ _ _ _ _ _ _)
      | (with_reducible exact LeO.refl _)
      | (with_reducible exact LeO.none _)
      | (with_reducible refine LeO.ite ?_ ?_)
      | (with_reducible refine LeO.bind ?_ (fun _ => ?_))
      | exact ih0 _ _ _ _ _ _
      | exact ih1 _ _ _ _ _ _
      | exact ih2 _ _ _ _ _ _ _ _ _ _ _ _ _ _
      | exact ih3 _ _ _ _ _ _ _ _ _ _ _ _ _ _
      | exact ih4 _ _ _ _ _ _ _ _ _ _ _ _ _ _ _ _ _ _ _ _ _
      | exact ih5 _ _ _ _ _ _ _ _ _ _ _ _ _ _ _ _ _ _ _ _ _
      | exact LeO.none _
      | refine LeO.ite ?_ ?_
      | refine LeO.bind ?_ (fun _ => ?_)
    · intro y0 y1 y2 y3 y4 y5 y6 y7 y8 y9 y10 y11 y12 y13 y14 y15 y16 y17 y18 y19 y20
      unfold secateurlaw08_Great.j4
      repeat' first
      | (with_reducible exact ih0 _ _ _ _ _ _)
      | (with_reducible exact ih1 _ _ _ _ _ _)
      | (with_reducible exact ih2 _ _ _ _ _ _ _ _ _ _ _ _ _ _)
      | (with_reducible exact ih3 _ _ _ _ _ _ _ _ _ _ _ _ _ _)
      | (with_reducible exact ih4 _ _ _ _ _ _ _ _ _ _ _ _ _ _ _ _ _ _ _ _ _)
      | (with_reducible exact ih5 _ _ _ _ _ _ _ _ _ _ _ _ _ _ _ _ _ _ _ _ _)
      | (with_reducible exact LeO.refl _)
      | (with_reducible exact LeO.none _)
      | (with_reducible refine LeO.ite ?_ ?_)
      | (with_reducible refine LeO.bind ?_ (fun _ => ?_))
      | exact ih0 _ _ _ _ _ _
      | exact ih1 _ _ _ _ _ _
      | exact ih2 _ _ _ _ _ _ _ _ _ _ _ _ _ _
      | exact ih3 _ _ _ _ _ _ _ _ _ _ _ _ _ _
      | exact ih4 _ _ _ _ _ _ _ _ _ _ _ _ _ _ _ _ _ _ _ _ _
      | exact ih5 _ _ _ _ _ _ _ _ _ _ _ _ _ _ _ _ _ _ _ _ _
      | exact LeO.none _
      | refine LeO.ite ?_ ?_
      | refine LeO.bind ?_ (fun _ => ?_)
    · intro y0 y1 y2 y3 y4 y5 y6 y7 y8 y9 y10 y11 y12 y13 y14 y15 y16 y17 y18 y19 y20
      unfold secateurlaw08_Great.l2
      repeat' first
      | (with_reducible exact ih0 _ _ _ _ _ _)
      | (with_reducible exact ih1 _ _ _ _ _ _)
      | (with_reducible exact ih2 _ _ _ _ _ _ _ _ _ _ _ _ _ _)
      | (with_reducible exact ih3 _ _ _ _ _ _ _ _ _ _ _ _ _ _)
      | (with_reducible exact ih4 _ _ _ _ _ _ _ _ _ _ _ _ _ _ _ _ _ _ _ _ _)
      | (with_reducible exact ih5 _ _ _ _ _ _ _ _ _ _ _ _ _ _ _ _ _ _ _ _ _)
      | (with_reducible exact LeO.refl _)
      | (with_reducible exact LeO.none _)
      | (with_reducible refine LeO.ite ?_ ?_)
      | (with_reducible refine LeO.bind ?_ (fun _ => ?_))
      | exact ih0 _ _ _ _ _ _
      | exact ih1 _ _ _ _ _ _
      | exact ih2 _ _ _ _ _ _ _ _ _ _ _ _ _ _
      | exact ih3 _ _ _ _ _ _ _ _ _ _ _ _ _ _
      | exact ih4 _ _ _ _ _ _ _ _ _ _ _ _ _ _ _ _ _ _ _ _ _
      | exact ih5 _ _ _ _ _ _ _ _ _ _ _ _ _ _ _ _ _ _ _ _ _
      | exact LeO.none _
      | refine LeO.ite ?_ ?_
      | refine LeO.bind ?_ (fun _ => ?_)
theorem secateurlaw08_Great.mono : ∀ a0 a1 a2 a3 a4 k, LeO (secateurlaw08_Great.f k a0 a1 a2 a3 a4) (secateurlaw08_Great.f (k + 1) a0 a1 a2 a3 a4) := by
  intro a0 a1 a2 a3 a4 k
  obtain ⟨ih0, ih1, ih2, ih3, ih4, ih5⟩ := secateurlaw08_Great.mono_l k
  unfold secateurlaw08_Great.f
  repeat' first
      | (with_reducible exact ih0 _ _ _ _ _ _)
      | (with_reducible exact ih1 _ _ _ _ _ _)
      | (with_reducible exact ih2 _ _ _ _ _ _ _ _ _ _ _ _ _ _)
      | (with_reducible exact ih3 _ _ _ _ _ _ _ _ _ _ _ _ _ _)
      | (with_reducible exact ih4 _ _ _ _ _ _ _ _ _ _ _ _ _ _ _ _ _ _ _ _ _)
      | (with_reducible exact ih5 _ _ _ _ _ _ _ _ _ _ _ _ _ _ _ _ _ _ _ _ _)
      | (with_reducible exact LeO.refl _)
      | (with_reducible exact LeO.none _)
      | (with_reducible refine LeO.ite ?_ ?_)
      | (with_reducible refine LeO.bind ?_ (fun _ => ?_))
      | exact ih0 _ _ _ _ _ _
      | exact ih1 _ _ _ _ _ _
      | exact ih2 _ _ _ _ _ _ _ _ _ _ _ _ _ _
      | exact ih3 _ _ _ _ _ _ _ _ _ _ _ _ _ _
      | exact ih4 _ _ _ _ _ _ _ _ _ _ _ _ _ _ _ _ _ _ _ _ _
      | exact ih5 _ _ _ _ _ _ _ _ _ _ _ _ _ _ _ _ _ _ _ _ _
      | exact LeO.none _
      | refine LeO.ite ?_ ?_
      | refine LeO.bind ?_ (fun _ => ?_)
set_option maxHeartbeats 8000000 in
set_option maxRecDepth 100000 in
theorem secateurlaw08_Great.calls (k : Nat) (A0_0 : Option Addr) (c0_0 : Nat) (l0_0 : List (S37)) (A0_1 : Option Addr) (c0_1 : Nat) (l0_1 : List ByteArray) (a0_2 : ByteArray) (a0_3 : ByteArray) (a0_4 : ByteArray) (r : Bool) (w : World) (hr0_0 : Kd.C k37 w A0_0 l0_0.length l0_0) (hc0_0 : l0_0.length ≤ c0_0) (hr0_1 : Kd.C Kd.string w A0_1 l0_1.length l0_1) (hc0_1 : l0_1.length ≤ c0_1) (h : secateurlaw08_Great.f k l0_0 l0_1 a0_2 a0_3 a0_4 = some r) :
    Calls Tryd.prog 11 #[.agg #[.slice A0_0 l0_0.length c0_0, .slice A0_1 l0_1.length c0_1, .string a0_2, .string a0_3, .string a0_4]] w fun e w' => e = .returned (.bool r) ∧ Below w.heap.size w w' := by
  have hu27 := Tryd.underlying27
  have hu37 := Tryd.underlying37
  have hu40 := Tryd.underlying40
  have HR0_0 := Aside0.mk hr0_0
  have HC0_0 := Aside0.mk hc0_0
  clear hr0_0 hc0_0
  have HR0_1 := Aside0.mk hr0_1
  have HC0_1 := Aside0.mk hc0_1
  clear hr0_1 hc0_1
  have HB := Aside0.mk (Below.refl w.heap.size w)
  have H : (if (l0_0.length : Int) > 70 then (secateurlaw08_Great.j0 k true l0_0 l0_1 a0_2 a0_3 a0_4) else (secateurlaw08_Great.j0 k (decide ((l0_1.length : Int) > 70)) l0_0 l0_1 a0_2 a0_3 a0_4)) = some r := h
  clear h
  have HC2 := Aside0.mk H
  clear H
  go_enter Tryd.func11, Tryd.ntmps11
  go_upto_region 1 with (first | ((with_reducible refine gate_dst (N := 1) rfl ?_); (try (refine gate_guard (by rfl) ?_; dsimp only)); refine box_event ?hg (N := 1) ?hd (cs := #[.slice A0_0 l0_0.length c0_0, .slice A0_1 l0_1.length c0_1, .string a0_2, .string a0_3, .string a0_4]) (t := 27) ?hr ?_; (case hd => rfl); (case hg => rfl); (case hr => first | (go_simp; done) | (go_simp; rfl)); intro gb108 hg w3 hbox hb; have n0_ := Aside0.mk (below_step (by repeat (first | (with_reducible first | exact HB.out | apply below_alloc | apply pw_below_drewN | apply below_drew1) | exact HB.out)) hb); have n1_ := Aside0.mk (hbox); have n2_ := Aside0.mk ((by rw [hg]; exact (below_size (by repeat (first | (with_reducible first | exact HB.out | apply below_alloc | apply pw_below_drewN | apply below_drew1) | exact HB.out))) : w.heap.size ≤ gb108)); have n3_ := Aside0.mk ((by rw [hg]; exact (below_size (by repeat (first | (with_reducible first | exact HB.out | apply below_alloc | apply pw_below_drewN | apply below_drew1) | exact HB.out))) : w.heap.size ≤ gb108)); clear HB; have HB := n0_; have BK108 := n1_; have GW108 := n2_; have GE108 := n3_; clear n0_ n1_ n2_ n3_; clear hb hbox hg))
  (try simp only [Act.put, List.setIfInBounds_toArray, List.set_cons_zero, List.set_cons_succ])
  go_cut [17] (fun v17 wc => ∃ (kq : Nat) (x17_1 : Bool), v17 = .bool x17_1 ∧ Aside0 (secateurlaw08_Great.j0 kq x17_1 l0_0 l0_1 a0_2 a0_3 a0_4 = some r) ∧ Aside0 (kq ≤ k) ∧ Aside0 (wc.heap[gb108]? = some (.cells #[(.slice A0_0 l0_0.length c0_0), (.slice A0_1 l0_1.length c0_1), .string a0_2, .string a0_3, .string a0_4] 27 (0, 0))) ∧ Aside0 (Below w.heap.size w wc))
  case first =>
    have H := HC2.out
    clear HC2
    by_cases c4 : (l0_0.length : Int) > 70
    · rw [if_pos c4] at H
      have c4b0 : decide (70 < (l0_0.length : Int)) = true := decide_eq_true c4
      have c4b1 : decide (70 < l0_0.length) = true := decide_eq_true (by omega)
      clear c4
      (first | rw [c4b0] | (simp only [i64_w, i32_w]; rw [c4b0]) | skip)
      have H' := Aside0.mk H
      clear H
      have hcz5_0 : w3.cell? ⟨gb108, 0, none⟩ = some (.slice A0_0 l0_0.length c0_0) := (blk_cell BK108.out 0).trans rfl
      have hcz5_1 : w3.cell? ⟨gb108, 1, none⟩ = some (.slice A0_1 l0_1.length c0_1) := (blk_cell BK108.out 1).trans rfl
      have hcz5_2 : w3.cell? ⟨gb108, 2, none⟩ = some (.string a0_2) := (blk_cell BK108.out 2).trans rfl
      have hcz5_3 : w3.cell? ⟨gb108, 3, none⟩ = some (.string a0_3) := (blk_cell BK108.out 3).trans rfl
      have hcz5_4 : w3.cell? ⟨gb108, 4, none⟩ = some (.string a0_4) := (blk_cell BK108.out 4).trans rfl
      have hfz5_0 := blk_frozen BK108.out 0
      have hfz5_1 := blk_frozen BK108.out 1
      have hfz5_2 := blk_frozen BK108.out 2
      have hfz5_3 := blk_frozen BK108.out 3
      have hfz5_4 := blk_frozen BK108.out 4
      go_wp2
      go_meet
      case rel => exact ⟨_, (true), (by first | rfl | (simp; done) | (simp [*]; done)), H', ⟨by first | omega | exact Nat.le_refl _⟩, ⟨by (with_reducible repeat (first | refine blk_drewN ?_ _ | refine blk_drew ?_ | refine blk_alloc ?_ _)); exact BK108.out⟩, ⟨by repeat (first | (with_reducible first | exact HB.out | apply below_alloc | apply pw_below_drewN | apply below_drew1 | refine below_set ?_ GE108.out) | exact HB.out)⟩⟩
    · rw [if_neg c4] at H
      have c4b0 : decide (70 < (l0_0.length : Int)) = false := decide_eq_false c4
      have c4b1 : decide (70 < l0_0.length) = false := decide_eq_false (by omega)
      clear c4
      (first | rw [c4b0] | (simp only [i64_w, i32_w]; rw [c4b0]) | skip)
      have H' := Aside0.mk H
      clear H
      have hcz6_0 : w3.cell? ⟨gb108, 0, none⟩ = some (.slice A0_0 l0_0.length c0_0) := (blk_cell BK108.out 0).trans rfl
      have hcz6_1 : w3.cell? ⟨gb108, 1, none⟩ = some (.slice A0_1 l0_1.length c0_1) := (blk_cell BK108.out 1).trans rfl
      have hcz6_2 : w3.cell? ⟨gb108, 2, none⟩ = some (.string a0_2) := (blk_cell BK108.out 2).trans rfl
      have hcz6_3 : w3.cell? ⟨gb108, 3, none⟩ = some (.string a0_3) := (blk_cell BK108.out 3).trans rfl
      have hcz6_4 : w3.cell? ⟨gb108, 4, none⟩ = some (.string a0_4) := (blk_cell BK108.out 4).trans rfl
      have hfz6_0 := blk_frozen BK108.out 0
      have hfz6_1 := blk_frozen BK108.out 1
      have hfz6_2 := blk_frozen BK108.out 2
      have hfz6_3 := blk_frozen BK108.out 3
      have hfz6_4 := blk_frozen BK108.out 4
      go_wp2
      go_meet
      case rel => exact ⟨_, (decide ((l0_1.length : Int) > 70)), (by first | rfl | (simp; done) | (simp [*]; done)), H', ⟨by first | omega | exact Nat.le_refl _⟩, ⟨by (with_reducible repeat (first | refine blk_drewN ?_ _ | refine blk_drew ?_ | refine blk_alloc ?_ _)); exact BK108.out⟩, ⟨by repeat (first | (with_reducible first | exact HB.out | apply below_alloc | apply pw_below_drewN | apply below_drew1 | refine below_set ?_ GE108.out) | exact HB.out)⟩⟩
  case rest =>
    clear HC2
    try clear c1
    try clear p2
    try clear c4
    try clear c4b0
    try clear c4b1
    try clear hcz5_0
    try clear hcz5_1
    try clear hcz5_2
    try clear hcz5_3
    try clear hcz5_4
    try clear hcz6_0
    try clear hcz6_1
    try clear hcz6_2
    try clear hcz6_3
    try clear hcz6_4
    try clear hfz5_0
    try clear hfz5_1
    try clear hfz5_2
    try clear hfz5_3
    try clear hfz5_4
    try clear hfz6_0
    try clear hfz6_1
    try clear hfz6_2
    try clear hfz6_3
    try clear hfz6_4
    obtain ⟨kq, x17_1, rfl, HA, HJ1, BK108, HB⟩ := hcut
    cases kq with
    | zero => exact absurd HA.out (by simp [secateurlaw08_Great.j0])
    | succ kj1 =>
      have H := HA.out
      clear HA
      simp only [secateurlaw08_Great.j0] at H
      by_cases c7 : x17_1 = true
      · subst c7
        have H1 : (some true) = some r := by rw [if_pos rfl] at H; exact H
        clear H
        have H := H1
        clear H1
        obtain rfl := Option.some.inj H
        simp only [Option.some.injEq, Prod.mk.injEq] at H
        obtain ⟨rfl⟩ := H
        go_wp2
        go_ret
        exact ⟨by first | rfl | (simp [errW_none, errW_some] <;> rfl) | (simp [*, errW_none, errW_some] <;> rfl), by repeat (first | (with_reducible first | exact HB.out | apply below_alloc | apply pw_below_drewN | apply below_drew1 | refine below_set ?_ GE108.out) | exact HB.out)⟩
      · replace c7 := Bool.eq_false_iff.mpr c7
        subst c7
        have H1 : (secateurlaw08_Great.l0 kj1 0 l0_0 l0_1 a0_2 a0_3 a0_4) = some r := by rw [if_neg (show ¬ (false = true) by decide)] at H; exact H
        clear H
        have H := H1
        clear H1
        have H' := Aside0.mk H
        clear H
        go_wp2
        go_loopg [3] kj1 (fun kq v3 w' => ∃ (x3_2 : Int), v3 = .int .i64 x3_2 ∧ Aside0 (secateurlaw08_Great.l0 kq x3_2 l0_0 l0_1 a0_2 a0_3 a0_4 = some r) ∧ Aside0 (kq ≤ kj1) ∧ Aside0 (w'.heap[gb108]? = some (.cells #[(.slice A0_0 l0_0.length c0_0), (.slice A0_1 l0_1.length c0_1), .string a0_2, .string a0_3, .string a0_4] 27 (0, 0))) ∧ Aside0 (Below w.heap.size w w'))
        case atStart => exact ⟨(0), (by first | rfl | (simp; done) | (simp [*]; done)), H', ⟨Nat.le_refl _⟩, ⟨by (with_reducible repeat (first | refine blk_drewN ?_ _ | refine blk_drew ?_ | refine blk_alloc ?_ _)); exact BK108.out⟩, ⟨by repeat (first | (with_reducible first | exact HB.out | apply below_alloc | apply pw_below_drewN | apply below_drew1 | refine below_set ?_ GE108.out) | exact HB.out)⟩⟩
        case round =>
          clear H'
          try clear c1
          try clear p2
          try clear c4
          try clear c4b0
          try clear c4b1
          try clear c7
          try clear hcz5_0
          try clear hcz5_1
          try clear hcz5_2
          try clear hcz5_3
          try clear hcz5_4
          try clear hcz6_0
          try clear hcz6_1
          try clear hcz6_2
          try clear hcz6_3
          try clear hcz6_4
          try clear hfz5_0
          try clear hfz5_1
          try clear hfz5_2
          try clear hfz5_3
          try clear hfz5_4
          try clear hfz6_0
          try clear hfz6_1
          try clear hfz6_2
          try clear hfz6_3
          try clear hfz6_4
          try clear p2
          obtain ⟨x3_2, rfl, HA, HK2, BK108, HB⟩ := hrel
          cases gk with
          | zero => exact absurd HA.out (by simp [secateurlaw08_Great.l0])
          | succ k2 =>
            have H := HA.out
            clear HA
            simp only [secateurlaw08_Great.l0] at H
            by_cases c8 : x3_2 < (l0_0.length : Int)
            · rw [if_pos c8] at H
              have c8b0 : decide (x3_2 < (l0_0.length : Int)) = true := decide_eq_true c8
              clear c8
              by_cases c9 : 0 ≤ x3_2
              · rw [if_pos c9] at H
                have c9b0 : decide (0 ≤ x3_2) = true := decide_eq_true c9
                clear c9
                have HC10 := Aside0.mk H
                clear H
                have hcz11_0 : wr.cell? ⟨gb108, 0, none⟩ = some (.slice A0_0 l0_0.length c0_0) := (blk_cell BK108.out 0).trans rfl
                have hcz11_1 : wr.cell? ⟨gb108, 1, none⟩ = some (.slice A0_1 l0_1.length c0_1) := (blk_cell BK108.out 1).trans rfl
                have hcz11_2 : wr.cell? ⟨gb108, 2, none⟩ = some (.string a0_2) := (blk_cell BK108.out 2).trans rfl
                have hcz11_3 : wr.cell? ⟨gb108, 3, none⟩ = some (.string a0_3) := (blk_cell BK108.out 3).trans rfl
                have hcz11_4 : wr.cell? ⟨gb108, 4, none⟩ = some (.string a0_4) := (blk_cell BK108.out 4).trans rfl
                have hfz11_0 := blk_frozen BK108.out 0
                have hfz11_1 := blk_frozen BK108.out 1
                have hfz11_2 := blk_frozen BK108.out 2
                have hfz11_3 := blk_frozen BK108.out 3
                have hfz11_4 := blk_frozen BK108.out 4
                have p109 : 0 ≤ (x3_2 : Int) := of_decide_eq_true (by first | (with_reducible assumption) | assumption)
                have q109 : x3_2 < (l0_0.length : Int) := of_decide_eq_true (by first | (with_reducible assumption) | assumption)
                obtain ⟨ad109, A109_4, c109_4, A109_5, c109_5, A109_6, c109_6, e109, hx109_0, hx109_1, hx109_2, hx109_3, hx109_4, hx109_5, hx109_6, hl109_4, hi109_4, hl109_5, hi109_5, hl109_6, hi109_6⟩ := at_T37 HR0_0.out x3_2 p109 q109
                cases e109
                replace hx109_0 := (HB.out.cell (World.block_lt_of_cell? w _ hx109_0)).trans hx109_0
                replace hx109_1 := (HB.out.cell (World.block_lt_of_cell? w _ hx109_1)).trans hx109_1
                replace hx109_2 := (HB.out.cell (World.block_lt_of_cell? w _ hx109_2)).trans hx109_2
                replace hx109_3 := (HB.out.cell (World.block_lt_of_cell? w _ hx109_3)).trans hx109_3
                replace hx109_4 := (HB.out.cell (World.block_lt_of_cell? w _ hx109_4)).trans hx109_4
                replace hx109_5 := (HB.out.cell (World.block_lt_of_cell? w _ hx109_5)).trans hx109_5
                replace hx109_6 := (HB.out.cell (World.block_lt_of_cell? w _ hx109_6)).trans hx109_6
                have HR109_4 := Aside0.mk hi109_4
                have HC109_4 := Aside0.mk hl109_4
                clear hi109_4 hl109_4
                have HR109_5 := Aside0.mk hi109_5
                have HC109_5 := Aside0.mk hl109_5
                clear hi109_5 hl109_5
                have HR109_6 := Aside0.mk hi109_6
                have HC109_6 := Aside0.mk hl109_6
                clear hi109_6 hl109_6
                replace p109 := eq_true p109
                replace q109 := eq_true q109
                go_upto_region 7 with (first | ((with_reducible refine gate_dst (N := 4) rfl ?_); (try (refine gate_guard (by rfl) ?_; dsimp only)); refine box_event ?hg (N := 4) ?hd (cs := #[.string (⟨#[]⟩ : ByteArray), .string (⟨#[]⟩ : ByteArray), .bool false, .bool false, .slice none 0 0, .slice none 0 0, .slice none 0 0]) (t := 37) ?hr ?_; (case hd => rfl); (case hg => rfl); (case hr => first | (go_simp; done) | (go_simp; rfl)); intro gb110 hg w12 hbox hb; have n0_ := Aside0.mk (blk_below (g := gb108) (o := .cells #[.slice (some ad109) l0_0.length c0_0, .slice A0_1 l0_1.length c0_1, .string a0_2, .string a0_3, .string a0_4] 27 (0, 0)) (by (with_reducible repeat (first | refine blk_drewN ?_ _ | refine blk_drew ?_ | refine blk_alloc ?_ _)); exact BK108.out) hb); have n1_ := Aside0.mk (below_step (by repeat (first | (with_reducible first | exact HB.out | apply below_alloc | apply pw_below_drewN | apply below_drew1 | refine below_set ?_ GE108.out) | exact HB.out)) hb); have n2_ := Aside0.mk (hbox); have n3_ := Aside0.mk ((by rw [hg]; exact (below_size (by repeat (first | (with_reducible first | exact HB.out | apply below_alloc | apply pw_below_drewN | apply below_drew1 | refine below_set ?_ GE108.out) | exact HB.out))) : w.heap.size ≤ gb110)); have n4_ := Aside0.mk ((by rw [hg]; exact (below_size (by repeat (first | (with_reducible first | exact HB.out | apply below_alloc | apply pw_below_drewN | apply below_drew1 | refine below_set ?_ GE108.out) | exact HB.out))) : w.heap.size ≤ gb110)); have n5_ := Aside0.mk ((by rw [hg]; exact Nat.ne_of_lt (blk_lt (g := gb108) (o := .cells #[.slice (some ad109) l0_0.length c0_0, .slice A0_1 l0_1.length c0_1, .string a0_2, .string a0_3, .string a0_4] 27 (0, 0)) (by (with_reducible repeat (first | refine blk_drewN ?_ _ | refine blk_drew ?_ | refine blk_alloc ?_ _)); exact BK108.out)) : gb108 ≠ gb110)); have n6_ := Aside0.mk ((by rw [hg]; exact Nat.ne_of_gt (blk_lt (g := gb108) (o := .cells #[.slice (some ad109) l0_0.length c0_0, .slice A0_1 l0_1.length c0_1, .string a0_2, .string a0_3, .string a0_4] 27 (0, 0)) (by (with_reducible repeat (first | refine blk_drewN ?_ _ | refine blk_drew ?_ | refine blk_alloc ?_ _)); exact BK108.out)) : gb110 ≠ gb108)); clear BK108; clear HB; have BK108 := n0_; have HB := n1_; have BK110 := n2_; have GW110 := n3_; have GE110 := n4_; have NB108_110 := n5_; have NB110_108 := n6_; clear n0_ n1_ n2_ n3_ n4_ n5_ n6_; clear hb hbox hg; have hnb13 := NB110_108.out; have hnc13 := NB108_110.out; have hcz14_0 : w12.cell? ⟨gb110, 0, none⟩ = some (.string (⟨#[]⟩ : ByteArray)) := (blk_cell BK110.out 0).trans rfl; have hcz14_1 : w12.cell? ⟨gb110, 1, none⟩ = some (.string (⟨#[]⟩ : ByteArray)) := (blk_cell BK110.out 1).trans rfl; have hcz14_2 : w12.cell? ⟨gb110, 2, none⟩ = some (.bool false) := (blk_cell BK110.out 2).trans rfl; have hcz14_3 : w12.cell? ⟨gb110, 3, none⟩ = some (.bool false) := (blk_cell BK110.out 3).trans rfl; have hcz14_4 : w12.cell? ⟨gb110, 4, none⟩ = some (.slice none 0 0) := (blk_cell BK110.out 4).trans rfl; have hcz14_5 : w12.cell? ⟨gb110, 5, none⟩ = some (.slice none 0 0) := (blk_cell BK110.out 5).trans rfl; have hcz14_6 : w12.cell? ⟨gb110, 6, none⟩ = some (.slice none 0 0) := (blk_cell BK110.out 6).trans rfl; have hfz14_0 := blk_frozen BK110.out 0; have hfz14_1 := blk_frozen BK110.out 1; have hfz14_2 := blk_frozen BK110.out 2; have hfz14_3 := blk_frozen BK110.out 3; have hfz14_4 := blk_frozen BK110.out 4; have hfz14_5 := blk_frozen BK110.out 5; have hfz14_6 := blk_frozen BK110.out 6))
                (try simp only [Act.put, List.setIfInBounds_toArray, List.set_cons_zero, List.set_cons_succ])
                go_cut [57] (fun v57 wc => ∃ (kq : Nat) (x57_9 : Bool), v57 = .bool x57_9 ∧ Aside0 (secateurlaw08_Great.j2 kq x3_2 x57_9 l0_0 l0_1 a0_2 a0_3 a0_4 ((rd_T37 l0_0 x3_2).f0) ((rd_T37 l0_0 x3_2).f1) ((rd_T37 l0_0 x3_2).f2) ((rd_T37 l0_0 x3_2).f3) ((rd_T37 l0_0 x3_2).f4) ((rd_T37 l0_0 x3_2).f5) ((rd_T37 l0_0 x3_2).f6) = some r) ∧ Aside0 (kq ≤ k2) ∧ Aside0 (wc.heap[gb108]? = some (.cells #[(.slice (some ad109) l0_0.length c0_0), (.slice A0_1 l0_1.length c0_1), .string a0_2, .string a0_3, .string a0_4] 27 (0, 0))) ∧ Aside0 (wc.heap[gb110]? = some (.cells #[.string ((rd_T37 l0_0 x3_2).f0), .string ((rd_T37 l0_0 x3_2).f1), .bool ((rd_T37 l0_0 x3_2).f2), .bool ((rd_T37 l0_0 x3_2).f3), (.slice A109_4 ((rd_T37 l0_0 x3_2).f4).length c109_4), (.slice A109_5 ((rd_T37 l0_0 x3_2).f5).length c109_5), (.slice A109_6 ((rd_T37 l0_0 x3_2).f6).length c109_6)] 37 (0, 0))) ∧ Aside0 (Below w.heap.size w wc))
                case first =>
                  have H := HC10.out
                  clear HC10
                  by_cases c15 : (((rd_T37 l0_0 x3_2).f4).length : Int) > 40
                  · rw [if_pos c15] at H
                    have c15b0 : decide (40 < (((rd_T37 l0_0 x3_2).f4).length : Int)) = true := decide_eq_true c15
                    have c15b1 : decide (40 < ((rd_T37 l0_0 x3_2).f4).length) = true := decide_eq_true (by omega)
                    clear c15
                    (first | rw [c15b0] | (simp only [i64_w, i32_w]; rw [c15b0]) | skip)
                    have H' := Aside0.mk H
                    clear H
                    have hnb16 := NB110_108.out
                    have hnc16 := NB108_110.out
                    have hcz17_0 : w12.cell? ⟨gb110, 0, none⟩ = some (.string (⟨#[]⟩ : ByteArray)) := (blk_cell BK110.out 0).trans rfl
                    have hcz17_1 : w12.cell? ⟨gb110, 1, none⟩ = some (.string (⟨#[]⟩ : ByteArray)) := (blk_cell BK110.out 1).trans rfl
                    have hcz17_2 : w12.cell? ⟨gb110, 2, none⟩ = some (.bool false) := (blk_cell BK110.out 2).trans rfl
                    have hcz17_3 : w12.cell? ⟨gb110, 3, none⟩ = some (.bool false) := (blk_cell BK110.out 3).trans rfl
                    have hcz17_4 : w12.cell? ⟨gb110, 4, none⟩ = some (.slice none 0 0) := (blk_cell BK110.out 4).trans rfl
                    have hcz17_5 : w12.cell? ⟨gb110, 5, none⟩ = some (.slice none 0 0) := (blk_cell BK110.out 5).trans rfl
                    have hcz17_6 : w12.cell? ⟨gb110, 6, none⟩ = some (.slice none 0 0) := (blk_cell BK110.out 6).trans rfl
                    have hfz17_0 := blk_frozen BK110.out 0
                    have hfz17_1 := blk_frozen BK110.out 1
                    have hfz17_2 := blk_frozen BK110.out 2
                    have hfz17_3 := blk_frozen BK110.out 3
                    have hfz17_4 := blk_frozen BK110.out 4
                    have hfz17_5 := blk_frozen BK110.out 5
                    have hfz17_6 := blk_frozen BK110.out 6
                    go_wp2
                    go_meet
                    case rel => exact ⟨_, (true), (by first | rfl | (simp; done) | (simp [*]; done)), H', ⟨by have := HJ1.out; have := HK2.out; first | omega | exact Nat.le_refl _⟩, ⟨by (with_reducible repeat (first | refine blk_drewN ?_ _ | refine blk_drew ?_ | refine blk_alloc ?_ _)); refine blk_far ?_ NB108_110.out _; (with_reducible repeat (first | refine blk_drewN ?_ _ | refine blk_drew ?_ | refine blk_alloc ?_ _)); refine blk_far ?_ NB108_110.out _; (with_reducible repeat (first | refine blk_drewN ?_ _ | refine blk_drew ?_ | refine blk_alloc ?_ _)); refine blk_far ?_ NB108_110.out _; (with_reducible repeat (first | refine blk_drewN ?_ _ | refine blk_drew ?_ | refine blk_alloc ?_ _)); refine blk_far ?_ NB108_110.out _; (with_reducible repeat (first | refine blk_drewN ?_ _ | refine blk_drew ?_ | refine blk_alloc ?_ _)); refine blk_far ?_ NB108_110.out _; (with_reducible repeat (first | refine blk_drewN ?_ _ | refine blk_drew ?_ | refine blk_alloc ?_ _)); refine blk_far ?_ NB108_110.out _; (with_reducible repeat (first | refine blk_drewN ?_ _ | refine blk_drew ?_ | refine blk_alloc ?_ _)); refine blk_far ?_ NB108_110.out _; (with_reducible repeat (first | refine blk_drewN ?_ _ | refine blk_drew ?_ | refine blk_alloc ?_ _)); exact BK108.out⟩, ⟨by (with_reducible repeat (first | refine blk_drewN ?_ _ | refine blk_drew ?_ | refine blk_alloc ?_ _)); refine blk_put (cs := #[.string ((rd_T37 l0_0 x3_2).f0), .string ((rd_T37 l0_0 x3_2).f1), .bool ((rd_T37 l0_0 x3_2).f2), .bool ((rd_T37 l0_0 x3_2).f3), .slice A109_4 ((rd_T37 l0_0 x3_2).f4).length c109_4, .slice A109_5 ((rd_T37 l0_0 x3_2).f5).length c109_5, .slice none 0 0]) ?_ 6 _ rfl; (with_reducible repeat (first | refine blk_drewN ?_ _ | refine blk_drew ?_ | refine blk_alloc ?_ _)); refine blk_put (cs := #[.string ((rd_T37 l0_0 x3_2).f0), .string ((rd_T37 l0_0 x3_2).f1), .bool ((rd_T37 l0_0 x3_2).f2), .bool ((rd_T37 l0_0 x3_2).f3), .slice A109_4 ((rd_T37 l0_0 x3_2).f4).length c109_4, .slice none 0 0, .slice none 0 0]) ?_ 5 _ rfl; (with_reducible repeat (first | refine blk_drewN ?_ _ | refine blk_drew ?_ | refine blk_alloc ?_ _)); refine blk_put (cs := #[.string ((rd_T37 l0_0 x3_2).f0), .string ((rd_T37 l0_0 x3_2).f1), .bool ((rd_T37 l0_0 x3_2).f2), .bool ((rd_T37 l0_0 x3_2).f3), .slice none 0 0, .slice none 0 0, .slice none 0 0]) ?_ 4 _ rfl; (with_reducible repeat (first | refine blk_drewN ?_ _ | refine blk_drew ?_ | refine blk_alloc ?_ _)); refine blk_put (cs := #[.string ((rd_T37 l0_0 x3_2).f0), .string ((rd_T37 l0_0 x3_2).f1), .bool ((rd_T37 l0_0 x3_2).f2), .bool false, .slice none 0 0, .slice none 0 0, .slice none 0 0]) ?_ 3 _ rfl; (with_reducible repeat (first | refine blk_drewN ?_ _ | refine blk_drew ?_ | refine blk_alloc ?_ _)); refine blk_put (cs := #[.string ((rd_T37 l0_0 x3_2).f0), .string ((rd_T37 l0_0 x3_2).f1), .bool false, .bool false, .slice none 0 0, .slice none 0 0, .slice none 0 0]) ?_ 2 _ rfl; (with_reducible repeat (first | refine blk_drewN ?_ _ | refine blk_drew ?_ | refine blk_alloc ?_ _)); refine blk_put (cs := #[.string ((rd_T37 l0_0 x3_2).f0), .string (⟨#[]⟩ : ByteArray), .bool false, .bool false, .slice none 0 0, .slice none 0 0, .slice none 0 0]) ?_ 1 _ rfl; (with_reducible repeat (first | refine blk_drewN ?_ _ | refine blk_drew ?_ | refine blk_alloc ?_ _)); refine blk_put (cs := #[.string (⟨#[]⟩ : ByteArray), .string (⟨#[]⟩ : ByteArray), .bool false, .bool false, .slice none 0 0, .slice none 0 0, .slice none 0 0]) ?_ 0 _ rfl; (with_reducible repeat (first | refine blk_drewN ?_ _ | refine blk_drew ?_ | refine blk_alloc ?_ _)); exact BK110.out⟩, ⟨by repeat (first | (with_reducible first | exact HB.out | apply below_alloc | apply pw_below_drewN | apply below_drew1 | refine below_set ?_ GE108.out | refine below_set ?_ GE110.out) | exact HB.out)⟩⟩
                  · rw [if_neg c15] at H
                    have c15b0 : decide (40 < (((rd_T37 l0_0 x3_2).f4).length : Int)) = false := decide_eq_false c15
                    have c15b1 : decide (40 < ((rd_T37 l0_0 x3_2).f4).length) = false := decide_eq_false (by omega)
                    clear c15
                    (first | rw [c15b0] | (simp only [i64_w, i32_w]; rw [c15b0]) | skip)
                    by_cases c18 : (((rd_T37 l0_0 x3_2).f5).length : Int) > 40
                    · rw [if_pos c18] at H
                      have c18b0 : decide (40 < (((rd_T37 l0_0 x3_2).f5).length : Int)) = true := decide_eq_true c18
                      have c18b1 : decide (40 < ((rd_T37 l0_0 x3_2).f5).length) = true := decide_eq_true (by omega)
                      clear c18
                      have H' := Aside0.mk H
                      clear H
                      have hnb19 := NB110_108.out
                      have hnc19 := NB108_110.out
                      have hcz20_0 : w12.cell? ⟨gb110, 0, none⟩ = some (.string (⟨#[]⟩ : ByteArray)) := (blk_cell BK110.out 0).trans rfl
                      have hcz20_1 : w12.cell? ⟨gb110, 1, none⟩ = some (.string (⟨#[]⟩ : ByteArray)) := (blk_cell BK110.out 1).trans rfl
                      have hcz20_2 : w12.cell? ⟨gb110, 2, none⟩ = some (.bool false) := (blk_cell BK110.out 2).trans rfl
                      have hcz20_3 : w12.cell? ⟨gb110, 3, none⟩ = some (.bool false) := (blk_cell BK110.out 3).trans rfl
                      have hcz20_4 : w12.cell? ⟨gb110, 4, none⟩ = some (.slice none 0 0) := (blk_cell BK110.out 4).trans rfl
                      have hcz20_5 : w12.cell? ⟨gb110, 5, none⟩ = some (.slice none 0 0) := (blk_cell BK110.out 5).trans rfl
                      have hcz20_6 : w12.cell? ⟨gb110, 6, none⟩ = some (.slice none 0 0) := (blk_cell BK110.out 6).trans rfl
                      have hfz20_0 := blk_frozen BK110.out 0
                      have hfz20_1 := blk_frozen BK110.out 1
                      have hfz20_2 := blk_frozen BK110.out 2
                      have hfz20_3 := blk_frozen BK110.out 3
                      have hfz20_4 := blk_frozen BK110.out 4
                      have hfz20_5 := blk_frozen BK110.out 5
                      have hfz20_6 := blk_frozen BK110.out 6
                      go_wp2
                      go_meet
                      case rel => exact ⟨_, (true), (by first | rfl | (simp; done) | (simp [*]; done)), H', ⟨by have := HJ1.out; have := HK2.out; first | omega | exact Nat.le_refl _⟩, ⟨by (with_reducible repeat (first | refine blk_drewN ?_ _ | refine blk_drew ?_ | refine blk_alloc ?_ _)); refine blk_far ?_ NB108_110.out _; (with_reducible repeat (first | refine blk_drewN ?_ _ | refine blk_drew ?_ | refine blk_alloc ?_ _)); refine blk_far ?_ NB108_110.out _; (with_reducible repeat (first | refine blk_drewN ?_ _ | refine blk_drew ?_ | refine blk_alloc ?_ _)); refine blk_far ?_ NB108_110.out _; (with_reducible repeat (first | refine blk_drewN ?_ _ | refine blk_drew ?_ | refine blk_alloc ?_ _)); refine blk_far ?_ NB108_110.out _; (with_reducible repeat (first | refine blk_drewN ?_ _ | refine blk_drew ?_ | refine blk_alloc ?_ _)); refine blk_far ?_ NB108_110.out _; (with_reducible repeat (first | refine blk_drewN ?_ _ | refine blk_drew ?_ | refine blk_alloc ?_ _)); refine blk_far ?_ NB108_110.out _; (with_reducible repeat (first | refine blk_drewN ?_ _ | refine blk_drew ?_ | refine blk_alloc ?_ _)); refine blk_far ?_ NB108_110.out _; (with_reducible repeat (first | refine blk_drewN ?_ _ | refine blk_drew ?_ | refine blk_alloc ?_ _)); exact BK108.out⟩, ⟨by (with_reducible repeat (first | refine blk_drewN ?_ _ | refine blk_drew ?_ | refine blk_alloc ?_ _)); refine blk_put (cs := #[.string ((rd_T37 l0_0 x3_2).f0), .string ((rd_T37 l0_0 x3_2).f1), .bool ((rd_T37 l0_0 x3_2).f2), .bool ((rd_T37 l0_0 x3_2).f3), .slice A109_4 ((rd_T37 l0_0 x3_2).f4).length c109_4, .slice A109_5 ((rd_T37 l0_0 x3_2).f5).length c109_5, .slice none 0 0]) ?_ 6 _ rfl; (with_reducible repeat (first | refine blk_drewN ?_ _ | refine blk_drew ?_ | refine blk_alloc ?_ _)); refine blk_put (cs := #[.string ((rd_T37 l0_0 x3_2).f0), .string ((rd_T37 l0_0 x3_2).f1), .bool ((rd_T37 l0_0 x3_2).f2), .bool ((rd_T37 l0_0 x3_2).f3), .slice A109_4 ((rd_T37 l0_0 x3_2).f4).length c109_4, .slice none 0 0, .slice none 0 0]) ?_ 5 _ rfl; (with_reducible repeat (first | refine blk_drewN ?_ _ | refine blk_drew ?_ | refine blk_alloc ?_ _)); refine blk_put (cs := #[.string ((rd_T37 l0_0 x3_2).f0), .string ((rd_T37 l0_0 x3_2).f1), .bool ((rd_T37 l0_0 x3_2).f2), .bool ((rd_T37 l0_0 x3_2).f3), .slice none 0 0, .slice none 0 0, .slice none 0 0]) ?_ 4 _ rfl; (with_reducible repeat (first | refine blk_drewN ?_ _ | refine blk_drew ?_ | refine blk_alloc ?_ _)); refine blk_put (cs := #[.string ((rd_T37 l0_0 x3_2).f0), .string ((rd_T37 l0_0 x3_2).f1), .bool ((rd_T37 l0_0 x3_2).f2), .bool false, .slice none 0 0, .slice none 0 0, .slice none 0 0]) ?_ 3 _ rfl; (with_reducible repeat (first | refine blk_drewN ?_ _ | refine blk_drew ?_ | refine blk_alloc ?_ _)); refine blk_put (cs := #[.string ((rd_T37 l0_0 x3_2).f0), .string ((rd_T37 l0_0 x3_2).f1), .bool false, .bool false, .slice none 0 0, .slice none 0 0, .slice none 0 0]) ?_ 2 _ rfl; (with_reducible repeat (first | refine blk_drewN ?_ _ | refine blk_drew ?_ | refine blk_alloc ?_ _)); refine blk_put (cs := #[.string ((rd_T37 l0_0 x3_2).f0), .string (⟨#[]⟩ : ByteArray), .bool false, .bool false, .slice none 0 0, .slice none 0 0, .slice none 0 0]) ?_ 1 _ rfl; (with_reducible repeat (first | refine blk_drewN ?_ _ | refine blk_drew ?_ | refine blk_alloc ?_ _)); refine blk_put (cs := #[.string (⟨#[]⟩ : ByteArray), .string (⟨#[]⟩ : ByteArray), .bool false, .bool false, .slice none 0 0, .slice none 0 0, .slice none 0 0]) ?_ 0 _ rfl; (with_reducible repeat (first | refine blk_drewN ?_ _ | refine blk_drew ?_ | refine blk_alloc ?_ _)); exact BK110.out⟩, ⟨by repeat (first | (with_reducible first | exact HB.out | apply below_alloc | apply pw_below_drewN | apply below_drew1 | refine below_set ?_ GE108.out | refine below_set ?_ GE110.out) | exact HB.out)⟩⟩
                    · rw [if_neg c18] at H
                      have c18b0 : decide (40 < (((rd_T37 l0_0 x3_2).f5).length : Int)) = false := decide_eq_false c18
                      have c18b1 : decide (40 < ((rd_T37 l0_0 x3_2).f5).length) = false := decide_eq_false (by omega)
                      clear c18
                      by_cases c21 : (((rd_T37 l0_0 x3_2).f6).length : Int) > 40
                      · rw [if_pos c21] at H
                        have c21b0 : decide (40 < (((rd_T37 l0_0 x3_2).f6).length : Int)) = true := decide_eq_true c21
                        have c21b1 : decide (40 < ((rd_T37 l0_0 x3_2).f6).length) = true := decide_eq_true (by omega)
                        clear c21
                        have H' := Aside0.mk H
                        clear H
                        have hnb22 := NB110_108.out
                        have hnc22 := NB108_110.out
                        have hcz23_0 : w12.cell? ⟨gb110, 0, none⟩ = some (.string (⟨#[]⟩ : ByteArray)) := (blk_cell BK110.out 0).trans rfl
                        have hcz23_1 : w12.cell? ⟨gb110, 1, none⟩ = some (.string (⟨#[]⟩ : ByteArray)) := (blk_cell BK110.out 1).trans rfl
                        have hcz23_2 : w12.cell? ⟨gb110, 2, none⟩ = some (.bool false) := (blk_cell BK110.out 2).trans rfl
                        have hcz23_3 : w12.cell? ⟨gb110, 3, none⟩ = some (.bool false) := (blk_cell BK110.out 3).trans rfl
                        have hcz23_4 : w12.cell? ⟨gb110, 4, none⟩ = some (.slice none 0 0) := (blk_cell BK110.out 4).trans rfl
                        have hcz23_5 : w12.cell? ⟨gb110, 5, none⟩ = some (.slice none 0 0) := (blk_cell BK110.out 5).trans rfl
                        have hcz23_6 : w12.cell? ⟨gb110, 6, none⟩ = some (.slice none 0 0) := (blk_cell BK110.out 6).trans rfl
                        have hfz23_0 := blk_frozen BK110.out 0
                        have hfz23_1 := blk_frozen BK110.out 1
                        have hfz23_2 := blk_frozen BK110.out 2
                        have hfz23_3 := blk_frozen BK110.out 3
                        have hfz23_4 := blk_frozen BK110.out 4
                        have hfz23_5 := blk_frozen BK110.out 5
                        have hfz23_6 := blk_frozen BK110.out 6
                        go_wp2
                        go_meet
                        case rel => exact ⟨_, (true), (by first | rfl | (simp; done) | (simp [*]; done)), H', ⟨by have := HJ1.out; have := HK2.out; first | omega | exact Nat.le_refl _⟩, ⟨by (with_reducible repeat (first | refine blk_drewN ?_ _ | refine blk_drew ?_ | refine blk_alloc ?_ _)); refine blk_far ?_ NB108_110.out _; (with_reducible repeat (first | refine blk_drewN ?_ _ | refine blk_drew ?_ | refine blk_alloc ?_ _)); refine blk_far ?_ NB108_110.out _; (with_reducible repeat (first | refine blk_drewN ?_ _ | refine blk_drew ?_ | refine blk_alloc ?_ _)); refine blk_far ?_ NB108_110.out _; (with_reducible repeat (first | refine blk_drewN ?_ _ | refine blk_drew ?_ | refine blk_alloc ?_ _)); refine blk_far ?_ NB108_110.out _; (with_reducible repeat (first | refine blk_drewN ?_ _ | refine blk_drew ?_ | refine blk_alloc ?_ _)); refine blk_far ?_ NB108_110.out _; (with_reducible repeat (first | refine blk_drewN ?_ _ | refine blk_drew ?_ | refine blk_alloc ?_ _)); refine blk_far ?_ NB108_110.out _; (with_reducible repeat (first | refine blk_drewN ?_ _ | refine blk_drew ?_ | refine blk_alloc ?_ _)); refine blk_far ?_ NB108_110.out _; (with_reducible repeat (first | refine blk_drewN ?_ _ | refine blk_drew ?_ | refine blk_alloc ?_ _)); exact BK108.out⟩, ⟨by (with_reducible repeat (first | refine blk_drewN ?_ _ | refine blk_drew ?_ | refine blk_alloc ?_ _)); refine blk_put (cs := #[.string ((rd_T37 l0_0 x3_2).f0), .string ((rd_T37 l0_0 x3_2).f1), .bool ((rd_T37 l0_0 x3_2).f2), .bool ((rd_T37 l0_0 x3_2).f3), .slice A109_4 ((rd_T37 l0_0 x3_2).f4).length c109_4, .slice A109_5 ((rd_T37 l0_0 x3_2).f5).length c109_5, .slice none 0 0]) ?_ 6 _ rfl; (with_reducible repeat (first | refine blk_drewN ?_ _ | refine blk_drew ?_ | refine blk_alloc ?_ _)); refine blk_put (cs := #[.string ((rd_T37 l0_0 x3_2).f0), .string ((rd_T37 l0_0 x3_2).f1), .bool ((rd_T37 l0_0 x3_2).f2), .bool ((rd_T37 l0_0 x3_2).f3), .slice A109_4 ((rd_T37 l0_0 x3_2).f4).length c109_4, .slice none 0 0, .slice none 0 0]) ?_ 5 _ rfl; (with_reducible repeat (first | refine blk_drewN ?_ _ | refine blk_drew ?_ | refine blk_alloc ?_ _)); refine blk_put (cs := #[.string ((rd_T37 l0_0 x3_2).f0), .string ((rd_T37 l0_0 x3_2).f1), .bool ((rd_T37 l0_0 x3_2).f2), .bool ((rd_T37 l0_0 x3_2).f3), .slice none 0 0, .slice none 0 0, .slice none 0 0]) ?_ 4 _ rfl; (with_reducible repeat (first | refine blk_drewN ?_ _ | refine blk_drew ?_ | refine blk_alloc ?_ _)); refine blk_put (cs := #[.string ((rd_T37 l0_0 x3_2).f0), .string ((rd_T37 l0_0 x3_2).f1), .bool ((rd_T37 l0_0 x3_2).f2), .bool false, .slice none 0 0, .slice none 0 0, .slice none 0 0]) ?_ 3 _ rfl; (with_reducible repeat (first | refine blk_drewN ?_ _ | refine blk_drew ?_ | refine blk_alloc ?_ _)); refine blk_put (cs := #[.string ((rd_T37 l0_0 x3_2).f0), .string ((rd_T37 l0_0 x3_2).f1), .bool false, .bool false, .slice none 0 0, .slice none 0 0, .slice none 0 0]) ?_ 2 _ rfl; (with_reducible repeat (first | refine blk_drewN ?_ _ | refine blk_drew ?_ | refine blk_alloc ?_ _)); refine blk_put (cs := #[.string ((rd_T37 l0_0 x3_2).f0), .string (⟨#[]⟩ : ByteArray), .bool false, .bool false, .slice none 0 0, .slice none 0 0, .slice none 0 0]) ?_ 1 _ rfl; (with_reducible repeat (first | refine blk_drewN ?_ _ | refine blk_drew ?_ | refine blk_alloc ?_ _)); refine blk_put (cs := #[.string (⟨#[]⟩ : ByteArray), .string (⟨#[]⟩ : ByteArray), .bool false, .bool false, .slice none 0 0, .slice none 0 0, .slice none 0 0]) ?_ 0 _ rfl; (with_reducible repeat (first | refine blk_drewN ?_ _ | refine blk_drew ?_ | refine blk_alloc ?_ _)); exact BK110.out⟩, ⟨by repeat (first | (with_reducible first | exact HB.out | apply below_alloc | apply pw_below_drewN | apply below_drew1 | refine below_set ?_ GE108.out | refine below_set ?_ GE110.out) | exact HB.out)⟩⟩
                      · rw [if_neg c21] at H
                        have c21b0 : decide (40 < (((rd_T37 l0_0 x3_2).f6).length : Int)) = false := decide_eq_false c21
                        have c21b1 : decide (40 < ((rd_T37 l0_0 x3_2).f6).length) = false := decide_eq_false (by omega)
                        clear c21
                        by_cases c24 : (((rd_T37 l0_0 x3_2).f0).size : Int) > 300
                        · rw [if_pos c24] at H
                          have c24b0 : decide (300 < (((rd_T37 l0_0 x3_2).f0).size : Int)) = true := decide_eq_true c24
                          have c24b1 : decide (300 < ((rd_T37 l0_0 x3_2).f0).size) = true := decide_eq_true (by omega)
                          clear c24
                          have H' := Aside0.mk H
                          clear H
                          have hnb25 := NB110_108.out
                          have hnc25 := NB108_110.out
                          have hcz26_0 : w12.cell? ⟨gb110, 0, none⟩ = some (.string (⟨#[]⟩ : ByteArray)) := (blk_cell BK110.out 0).trans rfl
                          have hcz26_1 : w12.cell? ⟨gb110, 1, none⟩ = some (.string (⟨#[]⟩ : ByteArray)) := (blk_cell BK110.out 1).trans rfl
                          have hcz26_2 : w12.cell? ⟨gb110, 2, none⟩ = some (.bool false) := (blk_cell BK110.out 2).trans rfl
                          have hcz26_3 : w12.cell? ⟨gb110, 3, none⟩ = some (.bool false) := (blk_cell BK110.out 3).trans rfl
                          have hcz26_4 : w12.cell? ⟨gb110, 4, none⟩ = some (.slice none 0 0) := (blk_cell BK110.out 4).trans rfl
                          have hcz26_5 : w12.cell? ⟨gb110, 5, none⟩ = some (.slice none 0 0) := (blk_cell BK110.out 5).trans rfl
                          have hcz26_6 : w12.cell? ⟨gb110, 6, none⟩ = some (.slice none 0 0) := (blk_cell BK110.out 6).trans rfl
                          have hfz26_0 := blk_frozen BK110.out 0
                          have hfz26_1 := blk_frozen BK110.out 1
                          have hfz26_2 := blk_frozen BK110.out 2
                          have hfz26_3 := blk_frozen BK110.out 3
                          have hfz26_4 := blk_frozen BK110.out 4
                          have hfz26_5 := blk_frozen BK110.out 5
                          have hfz26_6 := blk_frozen BK110.out 6
                          go_wp2
                          go_meet
                          case rel => exact ⟨_, (true), (by first | rfl | (simp; done) | (simp [*]; done)), H', ⟨by have := HJ1.out; have := HK2.out; first | omega | exact Nat.le_refl _⟩, ⟨by (with_reducible repeat (first | refine blk_drewN ?_ _ | refine blk_drew ?_ | refine blk_alloc ?_ _)); refine blk_far ?_ NB108_110.out _; (with_reducible repeat (first | refine blk_drewN ?_ _ | refine blk_drew ?_ | refine blk_alloc ?_ _)); refine blk_far ?_ NB108_110.out _; (with_reducible repeat (first | refine blk_drewN ?_ _ | refine blk_drew ?_ | refine blk_alloc ?_ _)); refine blk_far ?_ NB108_110.out _; (with_reducible repeat (first | refine blk_drewN ?_ _ | refine blk_drew ?_ | refine blk_alloc ?_ _)); refine blk_far ?_ NB108_110.out _; (with_reducible repeat (first | refine blk_drewN ?_ _ | refine blk_drew ?_ | refine blk_alloc ?_ _)); refine blk_far ?_ NB108_110.out _; (with_reducible repeat (first | refine blk_drewN ?_ _ | refine blk_drew ?_ | refine blk_alloc ?_ _)); refine blk_far ?_ NB108_110.out _; (with_reducible repeat (first | refine blk_drewN ?_ _ | refine blk_drew ?_ | refine blk_alloc ?_ _)); refine blk_far ?_ NB108_110.out _; (with_reducible repeat (first | refine blk_drewN ?_ _ | refine blk_drew ?_ | refine blk_alloc ?_ _)); exact BK108.out⟩, ⟨by (with_reducible repeat (first | refine blk_drewN ?_ _ | refine blk_drew ?_ | refine blk_alloc ?_ _)); refine blk_put (cs := #[.string ((rd_T37 l0_0 x3_2).f0), .string ((rd_T37 l0_0 x3_2).f1), .bool ((rd_T37 l0_0 x3_2).f2), .bool ((rd_T37 l0_0 x3_2).f3), .slice A109_4 ((rd_T37 l0_0 x3_2).f4).length c109_4, .slice A109_5 ((rd_T37 l0_0 x3_2).f5).length c109_5, .slice none 0 0]) ?_ 6 _ rfl; (with_reducible repeat (first | refine blk_drewN ?_ _ | refine blk_drew ?_ | refine blk_alloc ?_ _)); refine blk_put (cs := #[.string ((rd_T37 l0_0 x3_2).f0), .string ((rd_T37 l0_0 x3_2).f1), .bool ((rd_T37 l0_0 x3_2).f2), .bool ((rd_T37 l0_0 x3_2).f3), .slice A109_4 ((rd_T37 l0_0 x3_2).f4).length c109_4, .slice none 0 0, .slice none 0 0]) ?_ 5 _ rfl; (with_reducible repeat (first | refine blk_drewN ?_ _ | refine blk_drew ?_ | refine blk_alloc ?_ _)); refine blk_put (cs := #[.string ((rd_T37 l0_0 x3_2).f0), .string ((rd_T37 l0_0 x3_2).f1), .bool ((rd_T37 l0_0 x3_2).f2), .bool ((rd_T37 l0_0 x3_2).f3), .slice none 0 0, .slice none 0 0, .slice none 0 0]) ?_ 4 _ rfl; (with_reducible repeat (first | refine blk_drewN ?_ _ | refine blk_drew ?_ | refine blk_alloc ?_ _)); refine blk_put (cs := #[.string ((rd_T37 l0_0 x3_2).f0), .string ((rd_T37 l0_0 x3_2).f1), .bool ((rd_T37 l0_0 x3_2).f2), .bool false, .slice none 0 0, .slice none 0 0, .slice none 0 0]) ?_ 3 _ rfl; (with_reducible repeat (first | refine blk_drewN ?_ _ | refine blk_drew ?_ | refine blk_alloc ?_ _)); refine blk_put (cs := #[.string ((rd_T37 l0_0 x3_2).f0), .string ((rd_T37 l0_0 x3_2).f1), .bool false, .bool false, .slice none 0 0, .slice none 0 0, .slice none 0 0]) ?_ 2 _ rfl; (with_reducible repeat (first | refine blk_drewN ?_ _ | refine blk_drew ?_ | refine blk_alloc ?_ _)); refine blk_put (cs := #[.string ((rd_T37 l0_0 x3_2).f0), .string (⟨#[]⟩ : ByteArray), .bool false, .bool false, .slice none 0 0, .slice none 0 0, .slice none 0 0]) ?_ 1 _ rfl; (with_reducible repeat (first | refine blk_drewN ?_ _ | refine blk_drew ?_ | refine blk_alloc ?_ _)); refine blk_put (cs := #[.string (⟨#[]⟩ : ByteArray), .string (⟨#[]⟩ : ByteArray), .bool false, .bool false, .slice none 0 0, .slice none 0 0, .slice none 0 0]) ?_ 0 _ rfl; (with_reducible repeat (first | refine blk_drewN ?_ _ | refine blk_drew ?_ | refine blk_alloc ?_ _)); exact BK110.out⟩, ⟨by repeat (first | (with_reducible first | exact HB.out | apply below_alloc | apply pw_below_drewN | apply below_drew1 | refine below_set ?_ GE108.out | refine below_set ?_ GE110.out) | exact HB.out)⟩⟩
                        · rw [if_neg c24] at H
                          have c24b0 : decide (300 < (((rd_T37 l0_0 x3_2).f0).size : Int)) = false := decide_eq_false c24
                          have c24b1 : decide (300 < ((rd_T37 l0_0 x3_2).f0).size) = false := decide_eq_false (by omega)
                          clear c24
                          have H' := Aside0.mk H
                          clear H
                          have hnb27 := NB110_108.out
                          have hnc27 := NB108_110.out
                          have hcz28_0 : w12.cell? ⟨gb110, 0, none⟩ = some (.string (⟨#[]⟩ : ByteArray)) := (blk_cell BK110.out 0).trans rfl
                          have hcz28_1 : w12.cell? ⟨gb110, 1, none⟩ = some (.string (⟨#[]⟩ : ByteArray)) := (blk_cell BK110.out 1).trans rfl
                          have hcz28_2 : w12.cell? ⟨gb110, 2, none⟩ = some (.bool false) := (blk_cell BK110.out 2).trans rfl
                          have hcz28_3 : w12.cell? ⟨gb110, 3, none⟩ = some (.bool false) := (blk_cell BK110.out 3).trans rfl
                          have hcz28_4 : w12.cell? ⟨gb110, 4, none⟩ = some (.slice none 0 0) := (blk_cell BK110.out 4).trans rfl
                          have hcz28_5 : w12.cell? ⟨gb110, 5, none⟩ = some (.slice none 0 0) := (blk_cell BK110.out 5).trans rfl
                          have hcz28_6 : w12.cell? ⟨gb110, 6, none⟩ = some (.slice none 0 0) := (blk_cell BK110.out 6).trans rfl
                          have hfz28_0 := blk_frozen BK110.out 0
                          have hfz28_1 := blk_frozen BK110.out 1
                          have hfz28_2 := blk_frozen BK110.out 2
                          have hfz28_3 := blk_frozen BK110.out 3
                          have hfz28_4 := blk_frozen BK110.out 4
                          have hfz28_5 := blk_frozen BK110.out 5
                          have hfz28_6 := blk_frozen BK110.out 6
                          go_wp2
                          go_meet
                          case rel => exact ⟨_, (decide ((((rd_T37 l0_0 x3_2).f1).size : Int) > 300)), (by first | rfl | (simp; done) | (simp [*]; done)), H', ⟨by have := HJ1.out; have := HK2.out; first | omega | exact Nat.le_refl _⟩, ⟨by (with_reducible repeat (first | refine blk_drewN ?_ _ | refine blk_drew ?_ | refine blk_alloc ?_ _)); refine blk_far ?_ NB108_110.out _; (with_reducible repeat (first | refine blk_drewN ?_ _ | refine blk_drew ?_ | refine blk_alloc ?_ _)); refine blk_far ?_ NB108_110.out _; (with_reducible repeat (first | refine blk_drewN ?_ _ | refine blk_drew ?_ | refine blk_alloc ?_ _)); refine blk_far ?_ NB108_110.out _; (with_reducible repeat (first | refine blk_drewN ?_ _ | refine blk_drew ?_ | refine blk_alloc ?_ _)); refine blk_far ?_ NB108_110.out _; (with_reducible repeat (first | refine blk_drewN ?_ _ | refine blk_drew ?_ | refine blk_alloc ?_ _)); refine blk_far ?_ NB108_110.out _; (with_reducible repeat (first | refine blk_drewN ?_ _ | refine blk_drew ?_ | refine blk_alloc ?_ _)); refine blk_far ?_ NB108_110.out _; (with_reducible repeat (first | refine blk_drewN ?_ _ | refine blk_drew ?_ | refine blk_alloc ?_ _)); refine blk_far ?_ NB108_110.out _; (with_reducible repeat (first | refine blk_drewN ?_ _ | refine blk_drew ?_ | refine blk_alloc ?_ _)); exact BK108.out⟩, ⟨by (with_reducible repeat (first | refine blk_drewN ?_ _ | refine blk_drew ?_ | refine blk_alloc ?_ _)); refine blk_put (cs := #[.string ((rd_T37 l0_0 x3_2).f0), .string ((rd_T37 l0_0 x3_2).f1), .bool ((rd_T37 l0_0 x3_2).f2), .bool ((rd_T37 l0_0 x3_2).f3), .slice A109_4 ((rd_T37 l0_0 x3_2).f4).length c109_4, .slice A109_5 ((rd_T37 l0_0 x3_2).f5).length c109_5, .slice none 0 0]) ?_ 6 _ rfl; (with_reducible repeat (first | refine blk_drewN ?_ _ | refine blk_drew ?_ | refine blk_alloc ?_ _)); refine blk_put (cs := #[.string ((rd_T37 l0_0 x3_2).f0), .string ((rd_T37 l0_0 x3_2).f1), .bool ((rd_T37 l0_0 x3_2).f2), .bool ((rd_T37 l0_0 x3_2).f3), .slice A109_4 ((rd_T37 l0_0 x3_2).f4).length c109_4, .slice none 0 0, .slice none 0 0]) ?_ 5 _ rfl; (with_reducible repeat (first | refine blk_drewN ?_ _ | refine blk_drew ?_ | refine blk_alloc ?_ _)); refine blk_put (cs := #[.string ((rd_T37 l0_0 x3_2).f0), .string ((rd_T37 l0_0 x3_2).f1), .bool ((rd_T37 l0_0 x3_2).f2), .bool ((rd_T37 l0_0 x3_2).f3), .slice none 0 0, .slice none 0 0, .slice none 0 0]) ?_ 4 _ rfl; (with_reducible repeat (first | refine blk_drewN ?_ _ | refine blk_drew ?_ | refine blk_alloc ?_ _)); refine blk_put (cs := #[.string ((rd_T37 l0_0 x3_2).f0), .string ((rd_T37 l0_0 x3_2).f1), .bool ((rd_T37 l0_0 x3_2).f2), .bool false, .slice none 0 0, .slice none 0 0, .slice none 0 0]) ?_ 3 _ rfl; (with_reducible repeat (first | refine blk_drewN ?_ _ | refine blk_drew ?_ | refine blk_alloc ?_ _)); refine blk_put (cs := #[.string ((rd_T37 l0_0 x3_2).f0), .string ((rd_T37 l0_0 x3_2).f1), .bool false, .bool false, .slice none 0 0, .slice none 0 0, .slice none 0 0]) ?_ 2 _ rfl; (with_reducible repeat (first | refine blk_drewN ?_ _ | refine blk_drew ?_ | refine blk_alloc ?_ _)); refine blk_put (cs := #[.string ((rd_T37 l0_0 x3_2).f0), .string (⟨#[]⟩ : ByteArray), .bool false, .bool false, .slice none 0 0, .slice none 0 0, .slice none 0 0]) ?_ 1 _ rfl; (with_reducible repeat (first | refine blk_drewN ?_ _ | refine blk_drew ?_ | refine blk_alloc ?_ _)); refine blk_put (cs := #[.string (⟨#[]⟩ : ByteArray), .string (⟨#[]⟩ : ByteArray), .bool false, .bool false, .slice none 0 0, .slice none 0 0, .slice none 0 0]) ?_ 0 _ rfl; (with_reducible repeat (first | refine blk_drewN ?_ _ | refine blk_drew ?_ | refine blk_alloc ?_ _)); exact BK110.out⟩, ⟨by repeat (first | (with_reducible first | exact HB.out | apply below_alloc | apply pw_below_drewN | apply below_drew1 | refine below_set ?_ GE108.out | refine below_set ?_ GE110.out) | exact HB.out)⟩⟩
                case rest =>
                  clear HC10
                  try clear c1
                  try clear p1
                  try clear q1
                  try clear hx1
                  try clear c2
                  try clear p2
                  try clear c4
                  try clear c4b0
                  try clear c4b1
                  try clear c7
                  try clear c8
                  try clear c8b0
                  try clear c9
                  try clear c9b0
                  try clear c10
                  try clear p10
                  try clear q10
                  try clear hx10
                  try clear c11
                  try clear c13
                  try clear c15
                  try clear c15b0
                  try clear c15b1
                  try clear c16
                  try clear c18
                  try clear c18b0
                  try clear c18b1
                  try clear c19
                  try clear c21
                  try clear c21b0
                  try clear c21b1
                  try clear c22
                  try clear c24
                  try clear c24b0
                  try clear c24b1
                  try clear c25
                  try clear c27
                  try clear hcz11_0
                  try clear hcz11_1
                  try clear hcz11_2
                  try clear hcz11_3
                  try clear hcz11_4
                  try clear hcz14_0
                  try clear hcz14_1
                  try clear hcz14_2
                  try clear hcz14_3
                  try clear hcz14_4
                  try clear hcz14_5
                  try clear hcz14_6
                  try clear hcz17_0
                  try clear hcz17_1
                  try clear hcz17_2
                  try clear hcz17_3
                  try clear hcz17_4
                  try clear hcz17_5
                  try clear hcz17_6
                  try clear hcz20_0
                  try clear hcz20_1
                  try clear hcz20_2
                  try clear hcz20_3
                  try clear hcz20_4
                  try clear hcz20_5
                  try clear hcz20_6
                  try clear hcz23_0
                  try clear hcz23_1
                  try clear hcz23_2
                  try clear hcz23_3
                  try clear hcz23_4
                  try clear hcz23_5
                  try clear hcz23_6
                  try clear hcz26_0
                  try clear hcz26_1
                  try clear hcz26_2
                  try clear hcz26_3
                  try clear hcz26_4
                  try clear hcz26_5
                  try clear hcz26_6
                  try clear hcz28_0
                  try clear hcz28_1
                  try clear hcz28_2
                  try clear hcz28_3
                  try clear hcz28_4
                  try clear hcz28_5
                  try clear hcz28_6
                  try clear hcz5_0
                  try clear hcz5_1
                  try clear hcz5_2
                  try clear hcz5_3
                  try clear hcz5_4
                  try clear hcz6_0
                  try clear hcz6_1
                  try clear hcz6_2
                  try clear hcz6_3
                  try clear hcz6_4
                  try clear hfz11_0
                  try clear hfz11_1
                  try clear hfz11_2
                  try clear hfz11_3
                  try clear hfz11_4
                  try clear hfz14_0
                  try clear hfz14_1
                  try clear hfz14_2
                  try clear hfz14_3
                  try clear hfz14_4
                  try clear hfz14_5
                  try clear hfz14_6
                  try clear hfz17_0
                  try clear hfz17_1
                  try clear hfz17_2
                  try clear hfz17_3
                  try clear hfz17_4
                  try clear hfz17_5
                  try clear hfz17_6
                  try clear hfz20_0
                  try clear hfz20_1
                  try clear hfz20_2
                  try clear hfz20_3
                  try clear hfz20_4
                  try clear hfz20_5
                  try clear hfz20_6
                  try clear hfz23_0
                  try clear hfz23_1
                  try clear hfz23_2
                  try clear hfz23_3
                  try clear hfz23_4
                  try clear hfz23_5
                  try clear hfz23_6
                  try clear hfz26_0
                  try clear hfz26_1
                  try clear hfz26_2
                  try clear hfz26_3
                  try clear hfz26_4
                  try clear hfz26_5
                  try clear hfz26_6
                  try clear hfz28_0
                  try clear hfz28_1
                  try clear hfz28_2
                  try clear hfz28_3
                  try clear hfz28_4
                  try clear hfz28_5
                  try clear hfz28_6
                  try clear hfz5_0
                  try clear hfz5_1
                  try clear hfz5_2
                  try clear hfz5_3
                  try clear hfz5_4
                  try clear hfz6_0
                  try clear hfz6_1
                  try clear hfz6_2
                  try clear hfz6_3
                  try clear hfz6_4
                  try clear hx109_0
                  try clear hx109_1
                  try clear hx109_2
                  try clear hx109_3
                  try clear hx109_4
                  try clear hx109_5
                  try clear hx109_6
                  try clear p109
                  try clear p2
                  try clear q109
                  obtain ⟨kq, x57_9, rfl, HA, HJ9, BK108, BK110, HB⟩ := hcut
                  cases kq with
                  | zero => exact absurd HA.out (by simp [secateurlaw08_Great.j2])
                  | succ kj9 =>
                    have H := HA.out
                    clear HA
                    simp only [secateurlaw08_Great.j2] at H
                    by_cases c29 : x57_9 = true
                    · subst c29
                      have H1 : (some true) = some r := by rw [if_pos rfl] at H; exact H
                      clear H
                      have H := H1
                      clear H1
                      obtain rfl := Option.some.inj H
                      simp only [Option.some.injEq, Prod.mk.injEq] at H
                      obtain ⟨rfl⟩ := H
                      go_wp2
                      go_ret
                      exact ⟨by first | rfl | (simp [errW_none, errW_some] <;> rfl) | (simp [*, errW_none, errW_some] <;> rfl), by repeat (first | (with_reducible first | exact HB.out | apply below_alloc | apply pw_below_drewN | apply below_drew1 | refine below_set ?_ GE108.out | refine below_set ?_ GE110.out) | exact HB.out)⟩
                    · replace c29 := Bool.eq_false_iff.mpr c29
                      subst c29
                      have H1 : (secateurlaw08_Great.l1 kj9 x3_2 0 l0_0 l0_1 a0_2 a0_3 a0_4 ((rd_T37 l0_0 x3_2).f0) ((rd_T37 l0_0 x3_2).f1) ((rd_T37 l0_0 x3_2).f2) ((rd_T37 l0_0 x3_2).f3) ((rd_T37 l0_0 x3_2).f4) ((rd_T37 l0_0 x3_2).f5) ((rd_T37 l0_0 x3_2).f6)) = some r := by rw [if_neg (show ¬ (false = true) by decide)] at H; exact H
                      clear H
                      have H := H1
                      clear H1
                      have H' := Aside0.mk H
                      clear H
                      go_wp2
                      go_loopg [5] kj9 (fun kq v5 w' => ∃ (x5_4 : Int), v5 = .int .i64 x5_4 ∧ Aside0 (secateurlaw08_Great.l1 kq x3_2 x5_4 l0_0 l0_1 a0_2 a0_3 a0_4 ((rd_T37 l0_0 x3_2).f0) ((rd_T37 l0_0 x3_2).f1) ((rd_T37 l0_0 x3_2).f2) ((rd_T37 l0_0 x3_2).f3) ((rd_T37 l0_0 x3_2).f4) ((rd_T37 l0_0 x3_2).f5) ((rd_T37 l0_0 x3_2).f6) = some r) ∧ Aside0 (kq ≤ kj9) ∧ Aside0 (w'.heap[gb108]? = some (.cells #[(.slice (some ad109) l0_0.length c0_0), (.slice A0_1 l0_1.length c0_1), .string a0_2, .string a0_3, .string a0_4] 27 (0, 0))) ∧ Aside0 (w'.heap[gb110]? = some (.cells #[.string ((rd_T37 l0_0 x3_2).f0), .string ((rd_T37 l0_0 x3_2).f1), .bool ((rd_T37 l0_0 x3_2).f2), .bool ((rd_T37 l0_0 x3_2).f3), (.slice A109_4 ((rd_T37 l0_0 x3_2).f4).length c109_4), (.slice A109_5 ((rd_T37 l0_0 x3_2).f5).length c109_5), (.slice A109_6 ((rd_T37 l0_0 x3_2).f6).length c109_6)] 37 (0, 0))) ∧ Aside0 (Below w.heap.size w w'))
                      case atStart => exact ⟨(0), (by first | rfl | (simp; done) | (simp [*]; done)), H', ⟨Nat.le_refl _⟩, ⟨by (with_reducible repeat (first | refine blk_drewN ?_ _ | refine blk_drew ?_ | refine blk_alloc ?_ _)); exact BK108.out⟩, ⟨by (with_reducible repeat (first | refine blk_drewN ?_ _ | refine blk_drew ?_ | refine blk_alloc ?_ _)); exact BK110.out⟩, ⟨by repeat (first | (with_reducible first | exact HB.out | apply below_alloc | apply pw_below_drewN | apply below_drew1 | refine below_set ?_ GE108.out | refine below_set ?_ GE110.out) | exact HB.out)⟩⟩
                      case round =>
                        clear H'
                        try clear c1
                        try clear p1
                        try clear q1
                        try clear hx1
                        try clear c2
                        try clear p2
                        try clear c4
                        try clear c4b0
                        try clear c4b1
                        try clear c7
                        try clear c8
                        try clear c8b0
                        try clear c9
                        try clear c9b0
                        try clear c10
                        try clear p10
                        try clear q10
                        try clear hx10
                        try clear c11
                        try clear c13
                        try clear c15
                        try clear c15b0
                        try clear c15b1
                        try clear c16
                        try clear c18
                        try clear c18b0
                        try clear c18b1
                        try clear c19
                        try clear c21
                        try clear c21b0
                        try clear c21b1
                        try clear c22
                        try clear c24
                        try clear c24b0
                        try clear c24b1
                        try clear c25
                        try clear c27
                        try clear c29
                        try clear hcz11_0
                        try clear hcz11_1
                        try clear hcz11_2
                        try clear hcz11_3
                        try clear hcz11_4
                        try clear hcz14_0
                        try clear hcz14_1
                        try clear hcz14_2
                        try clear hcz14_3
                        try clear hcz14_4
                        try clear hcz14_5
                        try clear hcz14_6
                        try clear hcz17_0
                        try clear hcz17_1
                        try clear hcz17_2
                        try clear hcz17_3
                        try clear hcz17_4
                        try clear hcz17_5
                        try clear hcz17_6
                        try clear hcz20_0
                        try clear hcz20_1
                        try clear hcz20_2
                        try clear hcz20_3
                        try clear hcz20_4
                        try clear hcz20_5
                        try clear hcz20_6
                        try clear hcz23_0
                        try clear hcz23_1
                        try clear hcz23_2
                        try clear hcz23_3
                        try clear hcz23_4
                        try clear hcz23_5
                        try clear hcz23_6
                        try clear hcz26_0
                        try clear hcz26_1
                        try clear hcz26_2
                        try clear hcz26_3
                        try clear hcz26_4
                        try clear hcz26_5
                        try clear hcz26_6
                        try clear hcz28_0
                        try clear hcz28_1
                        try clear hcz28_2
                        try clear hcz28_3
                        try clear hcz28_4
                        try clear hcz28_5
                        try clear hcz28_6
                        try clear hcz5_0
                        try clear hcz5_1
                        try clear hcz5_2
                        try clear hcz5_3
                        try clear hcz5_4
                        try clear hcz6_0
                        try clear hcz6_1
                        try clear hcz6_2
                        try clear hcz6_3
                        try clear hcz6_4
                        try clear hfz11_0
                        try clear hfz11_1
                        try clear hfz11_2
                        try clear hfz11_3
                        try clear hfz11_4
                        try clear hfz14_0
                        try clear hfz14_1
                        try clear hfz14_2
                        try clear hfz14_3
                        try clear hfz14_4
                        try clear hfz14_5
                        try clear hfz14_6
                        try clear hfz17_0
                        try clear hfz17_1
                        try clear hfz17_2
                        try clear hfz17_3
                        try clear hfz17_4
                        try clear hfz17_5
                        try clear hfz17_6
                        try clear hfz20_0
                        try clear hfz20_1
                        try clear hfz20_2
                        try clear hfz20_3
                        try clear hfz20_4
                        try clear hfz20_5
                        try clear hfz20_6
                        try clear hfz23_0
                        try clear hfz23_1
                        try clear hfz23_2
                        try clear hfz23_3
                        try clear hfz23_4
                        try clear hfz23_5
                        try clear hfz23_6
                        try clear hfz26_0
                        try clear hfz26_1
                        try clear hfz26_2
                        try clear hfz26_3
                        try clear hfz26_4
                        try clear hfz26_5
                        try clear hfz26_6
                        try clear hfz28_0
                        try clear hfz28_1
                        try clear hfz28_2
                        try clear hfz28_3
                        try clear hfz28_4
                        try clear hfz28_5
                        try clear hfz28_6
                        try clear hfz5_0
                        try clear hfz5_1
                        try clear hfz5_2
                        try clear hfz5_3
                        try clear hfz5_4
                        try clear hfz6_0
                        try clear hfz6_1
                        try clear hfz6_2
                        try clear hfz6_3
                        try clear hfz6_4
                        try clear hx109_0
                        try clear hx109_1
                        try clear hx109_2
                        try clear hx109_3
                        try clear hx109_4
                        try clear hx109_5
                        try clear hx109_6
                        try clear p1
                        try clear p10
                        try clear p109
                        try clear p2
                        try clear q1
                        try clear q10
                        try clear q109
                        obtain ⟨x5_4, rfl, HA, HK4, BK108, BK110, HB⟩ := hrel
                        cases gk with
                        | zero => exact absurd HA.out (by simp [secateurlaw08_Great.l1])
                        | succ k4 =>
                          have H := HA.out
                          clear HA
                          simp only [secateurlaw08_Great.l1] at H
                          by_cases c30 : x5_4 < (((rd_T37 l0_0 x3_2).f6).length : Int)
                          · rw [if_pos c30] at H
                            have c30b0 : decide (x5_4 < (((rd_T37 l0_0 x3_2).f6).length : Int)) = true := decide_eq_true c30
                            clear c30
                            by_cases c31 : 0 ≤ x5_4
                            · rw [if_pos c31] at H
                              have c31b0 : decide (0 ≤ x5_4) = true := decide_eq_true c31
                              clear c31
                              have HC32 := Aside0.mk H
                              clear H
                              have hnb33 := NB110_108.out
                              have hnc33 := NB108_110.out
                              have hcz34_0 : wr.cell? ⟨gb110, 0, none⟩ = some (.string ((rd_T37 l0_0 x3_2).f0)) := (blk_cell BK110.out 0).trans rfl
                              have hcz34_1 : wr.cell? ⟨gb110, 1, none⟩ = some (.string ((rd_T37 l0_0 x3_2).f1)) := (blk_cell BK110.out 1).trans rfl
                              have hcz34_2 : wr.cell? ⟨gb110, 2, none⟩ = some (.bool ((rd_T37 l0_0 x3_2).f2)) := (blk_cell BK110.out 2).trans rfl
                              have hcz34_3 : wr.cell? ⟨gb110, 3, none⟩ = some (.bool ((rd_T37 l0_0 x3_2).f3)) := (blk_cell BK110.out 3).trans rfl
                              have hcz34_4 : wr.cell? ⟨gb110, 4, none⟩ = some (.slice A109_4 ((rd_T37 l0_0 x3_2).f4).length c109_4) := (blk_cell BK110.out 4).trans rfl
                              have hcz34_5 : wr.cell? ⟨gb110, 5, none⟩ = some (.slice A109_5 ((rd_T37 l0_0 x3_2).f5).length c109_5) := (blk_cell BK110.out 5).trans rfl
                              have hcz34_6 : wr.cell? ⟨gb110, 6, none⟩ = some (.slice A109_6 ((rd_T37 l0_0 x3_2).f6).length c109_6) := (blk_cell BK110.out 6).trans rfl
                              have hfz34_0 := blk_frozen BK110.out 0
                              have hfz34_1 := blk_frozen BK110.out 1
                              have hfz34_2 := blk_frozen BK110.out 2
                              have hfz34_3 := blk_frozen BK110.out 3
                              have hfz34_4 := blk_frozen BK110.out 4
                              have hfz34_5 := blk_frozen BK110.out 5
                              have hfz34_6 := blk_frozen BK110.out 6
                              have p111 : 0 ≤ (x5_4 : Int) := of_decide_eq_true (by first | (with_reducible assumption) | assumption)
                              have q111 : x5_4 < (((rd_T37 l0_0 x3_2).f6).length : Int) := of_decide_eq_true (by first | (with_reducible assumption) | assumption)
                              obtain ⟨ad111, A111_5, c111_5, e111, hx111_0, hx111_1, hx111_2, hx111_3, hx111_4, hx111_5, hl111_5, hi111_5⟩ := at_T40 HR109_6.out x5_4 p111 q111
                              cases e111
                              replace hx111_0 := (HB.out.cell (World.block_lt_of_cell? w _ hx111_0)).trans hx111_0
                              replace hx111_1 := (HB.out.cell (World.block_lt_of_cell? w _ hx111_1)).trans hx111_1
                              replace hx111_2 := (HB.out.cell (World.block_lt_of_cell? w _ hx111_2)).trans hx111_2
                              replace hx111_3 := (HB.out.cell (World.block_lt_of_cell? w _ hx111_3)).trans hx111_3
                              replace hx111_4 := (HB.out.cell (World.block_lt_of_cell? w _ hx111_4)).trans hx111_4
                              replace hx111_5 := (HB.out.cell (World.block_lt_of_cell? w _ hx111_5)).trans hx111_5
                              have HR111_5 := Aside0.mk hi111_5
                              have HC111_5 := Aside0.mk hl111_5
                              clear hi111_5 hl111_5
                              replace p111 := eq_true p111
                              replace q111 := eq_true q111
                              go_upto_region 13 with (first | ((with_reducible refine gate_dst (N := 6) rfl ?_); (try (refine gate_guard (by rfl) ?_; dsimp only)); refine box_event ?hg (N := 6) ?hd (cs := #[.string (⟨#[]⟩ : ByteArray), .string (⟨#[]⟩ : ByteArray), .bool false, .bool false, .int .i64 0, .slice none 0 0]) (t := 40) ?hr ?_; (case hd => rfl); (case hg => rfl); (case hr => first | (go_simp; done) | (go_simp; rfl)); intro gb112 hg w35 hbox hb; have n0_ := Aside0.mk (blk_below (g := gb108) (o := .cells #[.slice (some ad109) l0_0.length c0_0, .slice A0_1 l0_1.length c0_1, .string a0_2, .string a0_3, .string a0_4] 27 (0, 0)) (by (with_reducible repeat (first | refine blk_drewN ?_ _ | refine blk_drew ?_ | refine blk_alloc ?_ _)); exact BK108.out) hb); have n1_ := Aside0.mk (blk_below (g := gb110) (o := .cells #[.string ((rd_T37 l0_0 x3_2).f0), .string ((rd_T37 l0_0 x3_2).f1), .bool ((rd_T37 l0_0 x3_2).f2), .bool ((rd_T37 l0_0 x3_2).f3), .slice A109_4 ((rd_T37 l0_0 x3_2).f4).length c109_4, .slice A109_5 ((rd_T37 l0_0 x3_2).f5).length c109_5, .slice (some ad111) ((rd_T37 l0_0 x3_2).f6).length c109_6] 37 (0, 0)) (by (with_reducible repeat (first | refine blk_drewN ?_ _ | refine blk_drew ?_ | refine blk_alloc ?_ _)); exact BK110.out) hb); have n2_ := Aside0.mk (below_step (by repeat (first | (with_reducible first | exact HB.out | apply below_alloc | apply pw_below_drewN | apply below_drew1 | refine below_set ?_ GE108.out | refine below_set ?_ GE110.out) | exact HB.out)) hb); have n3_ := Aside0.mk (hbox); have n4_ := Aside0.mk ((by rw [hg]; exact (below_size (by repeat (first | (with_reducible first | exact HB.out | apply below_alloc | apply pw_below_drewN | apply below_drew1 | refine below_set ?_ GE108.out | refine below_set ?_ GE110.out) | exact HB.out))) : w.heap.size ≤ gb112)); have n5_ := Aside0.mk ((by rw [hg]; exact (below_size (by repeat (first | (with_reducible first | exact HB.out | apply below_alloc | apply pw_below_drewN | apply below_drew1 | refine below_set ?_ GE108.out | refine below_set ?_ GE110.out) | exact HB.out))) : w.heap.size ≤ gb112)); have n6_ := Aside0.mk ((by rw [hg]; exact Nat.ne_of_lt (blk_lt (g := gb108) (o := .cells #[.slice (some ad109) l0_0.length c0_0, .slice A0_1 l0_1.length c0_1, .string a0_2, .string a0_3, .string a0_4] 27 (0, 0)) (by (with_reducible repeat (first | refine blk_drewN ?_ _ | refine blk_drew ?_ | refine blk_alloc ?_ _)); exact BK108.out)) : gb108 ≠ gb112)); have n7_ := Aside0.mk ((by rw [hg]; exact Nat.ne_of_gt (blk_lt (g := gb108) (o := .cells #[.slice (some ad109) l0_0.length c0_0, .slice A0_1 l0_1.length c0_1, .string a0_2, .string a0_3, .string a0_4] 27 (0, 0)) (by (with_reducible repeat (first | refine blk_drewN ?_ _ | refine blk_drew ?_ | refine blk_alloc ?_ _)); exact BK108.out)) : gb112 ≠ gb108)); have n8_ := Aside0.mk ((by rw [hg]; exact Nat.ne_of_lt (blk_lt (g := gb110) (o := .cells #[.string ((rd_T37 l0_0 x3_2).f0), .string ((rd_T37 l0_0 x3_2).f1), .bool ((rd_T37 l0_0 x3_2).f2), .bool ((rd_T37 l0_0 x3_2).f3), .slice A109_4 ((rd_T37 l0_0 x3_2).f4).length c109_4, .slice A109_5 ((rd_T37 l0_0 x3_2).f5).length c109_5, .slice (some ad111) ((rd_T37 l0_0 x3_2).f6).length c109_6] 37 (0, 0)) (by (with_reducible repeat (first | refine blk_drewN ?_ _ | refine blk_drew ?_ | refine blk_alloc ?_ _)); exact BK110.out)) : gb110 ≠ gb112)); have n9_ := Aside0.mk ((by rw [hg]; exact Nat.ne_of_gt (blk_lt (g := gb110) (o := .cells #[.string ((rd_T37 l0_0 x3_2).f0), .string ((rd_T37 l0_0 x3_2).f1), .bool ((rd_T37 l0_0 x3_2).f2), .bool ((rd_T37 l0_0 x3_2).f3), .slice A109_4 ((rd_T37 l0_0 x3_2).f4).length c109_4, .slice A109_5 ((rd_T37 l0_0 x3_2).f5).length c109_5, .slice (some ad111) ((rd_T37 l0_0 x3_2).f6).length c109_6] 37 (0, 0)) (by (with_reducible repeat (first | refine blk_drewN ?_ _ | refine blk_drew ?_ | refine blk_alloc ?_ _)); exact BK110.out)) : gb112 ≠ gb110)); clear BK108; clear BK110; clear HB; have BK108 := n0_; have BK110 := n1_; have HB := n2_; have BK112 := n3_; have GW112 := n4_; have GE112 := n5_; have NB108_112 := n6_; have NB112_108 := n7_; have NB110_112 := n8_; have NB112_110 := n9_; clear n0_ n1_ n2_ n3_ n4_ n5_ n6_ n7_ n8_ n9_; clear hb hbox hg; have hnb36 := NB112_108.out; have hnc36 := NB108_112.out; have hnb37 := NB112_110.out; have hnc37 := NB110_112.out; have hcz38_0 : w35.cell? ⟨gb112, 0, none⟩ = some (.string (⟨#[]⟩ : ByteArray)) := (blk_cell BK112.out 0).trans rfl; have hcz38_1 : w35.cell? ⟨gb112, 1, none⟩ = some (.string (⟨#[]⟩ : ByteArray)) := (blk_cell BK112.out 1).trans rfl; have hcz38_2 : w35.cell? ⟨gb112, 2, none⟩ = some (.bool false) := (blk_cell BK112.out 2).trans rfl; have hcz38_3 : w35.cell? ⟨gb112, 3, none⟩ = some (.bool false) := (blk_cell BK112.out 3).trans rfl; have hcz38_4 : w35.cell? ⟨gb112, 4, none⟩ = some (.int .i64 0) := (blk_cell BK112.out 4).trans rfl; have hcz38_5 : w35.cell? ⟨gb112, 5, none⟩ = some (.slice none 0 0) := (blk_cell BK112.out 5).trans rfl; have hfz38_0 := blk_frozen BK112.out 0; have hfz38_1 := blk_frozen BK112.out 1; have hfz38_2 := blk_frozen BK112.out 2; have hfz38_3 := blk_frozen BK112.out 3; have hfz38_4 := blk_frozen BK112.out 4; have hfz38_5 := blk_frozen BK112.out 5))
                              (try simp only [Act.put, List.setIfInBounds_toArray, List.set_cons_zero, List.set_cons_succ])
                              go_cut [85] (fun v85 wc => ∃ (kq : Nat) (x85_31 : Bool), v85 = .bool x85_31 ∧ Aside0 (secateurlaw08_Great.j4 kq x3_2 x5_4 x85_31 l0_0 l0_1 a0_2 a0_3 a0_4 ((rd_T37 l0_0 x3_2).f0) ((rd_T37 l0_0 x3_2).f1) ((rd_T37 l0_0 x3_2).f2) ((rd_T37 l0_0 x3_2).f3) ((rd_T37 l0_0 x3_2).f4) ((rd_T37 l0_0 x3_2).f5) ((rd_T37 l0_0 x3_2).f6) ((rd_T40 ((rd_T37 l0_0 x3_2).f6) x5_4).f0) ((rd_T40 ((rd_T37 l0_0 x3_2).f6) x5_4).f1) ((rd_T40 ((rd_T37 l0_0 x3_2).f6) x5_4).f2) ((rd_T40 ((rd_T37 l0_0 x3_2).f6) x5_4).f3) ((rd_T40 ((rd_T37 l0_0 x3_2).f6) x5_4).f4) ((rd_T40 ((rd_T37 l0_0 x3_2).f6) x5_4).f5) = some r) ∧ Aside0 (kq ≤ k4) ∧ Aside0 (wc.heap[gb108]? = some (.cells #[(.slice (some ad109) l0_0.length c0_0), (.slice A0_1 l0_1.length c0_1), .string a0_2, .string a0_3, .string a0_4] 27 (0, 0))) ∧ Aside0 (wc.heap[gb110]? = some (.cells #[.string ((rd_T37 l0_0 x3_2).f0), .string ((rd_T37 l0_0 x3_2).f1), .bool ((rd_T37 l0_0 x3_2).f2), .bool ((rd_T37 l0_0 x3_2).f3), (.slice A109_4 ((rd_T37 l0_0 x3_2).f4).length c109_4), (.slice A109_5 ((rd_T37 l0_0 x3_2).f5).length c109_5), (.slice (some ad111) ((rd_T37 l0_0 x3_2).f6).length c109_6)] 37 (0, 0))) ∧ Aside0 (wc.heap[gb112]? = some (.cells #[.string ((rd_T40 ((rd_T37 l0_0 x3_2).f6) x5_4).f0), .string ((rd_T40 ((rd_T37 l0_0 x3_2).f6) x5_4).f1), .bool ((rd_T40 ((rd_T37 l0_0 x3_2).f6) x5_4).f2), .bool ((rd_T40 ((rd_T37 l0_0 x3_2).f6) x5_4).f3), .int .i64 ((rd_T40 ((rd_T37 l0_0 x3_2).f6) x5_4).f4), (.slice A111_5 ((rd_T40 ((rd_T37 l0_0 x3_2).f6) x5_4).f5).length c111_5)] 40 (0, 0))) ∧ Aside0 (Below w.heap.size w wc))
                              case first =>
                                have H := HC32.out
                                clear HC32
                                by_cases c39 : (((rd_T40 ((rd_T37 l0_0 x3_2).f6) x5_4).f5).length : Int) > 300
                                · rw [if_pos c39] at H
                                  have c39b0 : decide (300 < (((rd_T40 ((rd_T37 l0_0 x3_2).f6) x5_4).f5).length : Int)) = true := decide_eq_true c39
                                  have c39b1 : decide (300 < ((rd_T40 ((rd_T37 l0_0 x3_2).f6) x5_4).f5).length) = true := decide_eq_true (by omega)
                                  clear c39
                                  (first | rw [c39b0] | (simp only [i64_w, i32_w]; rw [c39b0]) | skip)
                                  have H' := Aside0.mk H
                                  clear H
                                  have hnb40 := NB112_108.out
                                  have hnc40 := NB108_112.out
                                  have hnb41 := NB112_110.out
                                  have hnc41 := NB110_112.out
                                  have hcz42_0 : w35.cell? ⟨gb112, 0, none⟩ = some (.string (⟨#[]⟩ : ByteArray)) := (blk_cell BK112.out 0).trans rfl
                                  have hcz42_1 : w35.cell? ⟨gb112, 1, none⟩ = some (.string (⟨#[]⟩ : ByteArray)) := (blk_cell BK112.out 1).trans rfl
                                  have hcz42_2 : w35.cell? ⟨gb112, 2, none⟩ = some (.bool false) := (blk_cell BK112.out 2).trans rfl
                                  have hcz42_3 : w35.cell? ⟨gb112, 3, none⟩ = some (.bool false) := (blk_cell BK112.out 3).trans rfl
                                  have hcz42_4 : w35.cell? ⟨gb112, 4, none⟩ = some (.int .i64 0) := (blk_cell BK112.out 4).trans rfl
                                  have hcz42_5 : w35.cell? ⟨gb112, 5, none⟩ = some (.slice none 0 0) := (blk_cell BK112.out 5).trans rfl
                                  have hfz42_0 := blk_frozen BK112.out 0
                                  have hfz42_1 := blk_frozen BK112.out 1
                                  have hfz42_2 := blk_frozen BK112.out 2
                                  have hfz42_3 := blk_frozen BK112.out 3
                                  have hfz42_4 := blk_frozen BK112.out 4
                                  have hfz42_5 := blk_frozen BK112.out 5
                                  go_wp2
                                  go_meet
                                  case rel => exact ⟨_, (true), (by first | rfl | (simp; done) | (simp [*]; done)), H', ⟨by have := HJ1.out; have := HK2.out; have := HJ9.out; have := HK4.out; first | omega | exact Nat.le_refl _⟩, ⟨by (with_reducible repeat (first | refine blk_drewN ?_ _ | refine blk_drew ?_ | refine blk_alloc ?_ _)); refine blk_far ?_ NB108_112.out _; (with_reducible repeat (first | refine blk_drewN ?_ _ | refine blk_drew ?_ | refine blk_alloc ?_ _)); refine blk_far ?_ NB108_112.out _; (with_reducible repeat (first | refine blk_drewN ?_ _ | refine blk_drew ?_ | refine blk_alloc ?_ _)); refine blk_far ?_ NB108_112.out _; (with_reducible repeat (first | refine blk_drewN ?_ _ | refine blk_drew ?_ | refine blk_alloc ?_ _)); refine blk_far ?_ NB108_112.out _; (with_reducible repeat (first | refine blk_drewN ?_ _ | refine blk_drew ?_ | refine blk_alloc ?_ _)); refine blk_far ?_ NB108_112.out _; (with_reducible repeat (first | refine blk_drewN ?_ _ | refine blk_drew ?_ | refine blk_alloc ?_ _)); refine blk_far ?_ NB108_112.out _; (with_reducible repeat (first | refine blk_drewN ?_ _ | refine blk_drew ?_ | refine blk_alloc ?_ _)); exact BK108.out⟩, ⟨by (with_reducible repeat (first | refine blk_drewN ?_ _ | refine blk_drew ?_ | refine blk_alloc ?_ _)); refine blk_far ?_ NB110_112.out _; (with_reducible repeat (first | refine blk_drewN ?_ _ | refine blk_drew ?_ | refine blk_alloc ?_ _)); refine blk_far ?_ NB110_112.out _; (with_reducible repeat (first | refine blk_drewN ?_ _ | refine blk_drew ?_ | refine blk_alloc ?_ _)); refine blk_far ?_ NB110_112.out _; (with_reducible repeat (first | refine blk_drewN ?_ _ | refine blk_drew ?_ | refine blk_alloc ?_ _)); refine blk_far ?_ NB110_112.out _; (with_reducible repeat (first | refine blk_drewN ?_ _ | refine blk_drew ?_ | refine blk_alloc ?_ _)); refine blk_far ?_ NB110_112.out _; (with_reducible repeat (first | refine blk_drewN ?_ _ | refine blk_drew ?_ | refine blk_alloc ?_ _)); refine blk_far ?_ NB110_112.out _; (with_reducible repeat (first | refine blk_drewN ?_ _ | refine blk_drew ?_ | refine blk_alloc ?_ _)); exact BK110.out⟩, ⟨by (with_reducible repeat (first | refine blk_drewN ?_ _ | refine blk_drew ?_ | refine blk_alloc ?_ _)); refine blk_put (cs := #[.string ((rd_T40 ((rd_T37 l0_0 x3_2).f6) x5_4).f0), .string ((rd_T40 ((rd_T37 l0_0 x3_2).f6) x5_4).f1), .bool ((rd_T40 ((rd_T37 l0_0 x3_2).f6) x5_4).f2), .bool ((rd_T40 ((rd_T37 l0_0 x3_2).f6) x5_4).f3), .int .i64 ((rd_T40 ((rd_T37 l0_0 x3_2).f6) x5_4).f4), .slice none 0 0]) ?_ 5 _ rfl; (with_reducible repeat (first | refine blk_drewN ?_ _ | refine blk_drew ?_ | refine blk_alloc ?_ _)); refine blk_put (cs := #[.string ((rd_T40 ((rd_T37 l0_0 x3_2).f6) x5_4).f0), .string ((rd_T40 ((rd_T37 l0_0 x3_2).f6) x5_4).f1), .bool ((rd_T40 ((rd_T37 l0_0 x3_2).f6) x5_4).f2), .bool ((rd_T40 ((rd_T37 l0_0 x3_2).f6) x5_4).f3), .int .i64 0, .slice none 0 0]) ?_ 4 _ rfl; (with_reducible repeat (first | refine blk_drewN ?_ _ | refine blk_drew ?_ | refine blk_alloc ?_ _)); refine blk_put (cs := #[.string ((rd_T40 ((rd_T37 l0_0 x3_2).f6) x5_4).f0), .string ((rd_T40 ((rd_T37 l0_0 x3_2).f6) x5_4).f1), .bool ((rd_T40 ((rd_T37 l0_0 x3_2).f6) x5_4).f2), .bool false, .int .i64 0, .slice none 0 0]) ?_ 3 _ rfl; (with_reducible repeat (first | refine blk_drewN ?_ _ | refine blk_drew ?_ | refine blk_alloc ?_ _)); refine blk_put (cs := #[.string ((rd_T40 ((rd_T37 l0_0 x3_2).f6) x5_4).f0), .string ((rd_T40 ((rd_T37 l0_0 x3_2).f6) x5_4).f1), .bool false, .bool false, .int .i64 0, .slice none 0 0]) ?_ 2 _ rfl; (with_reducible repeat (first | refine blk_drewN ?_ _ | refine blk_drew ?_ | refine blk_alloc ?_ _)); refine blk_put (cs := #[.string ((rd_T40 ((rd_T37 l0_0 x3_2).f6) x5_4).f0), .string (⟨#[]⟩ : ByteArray), .bool false, .bool false, .int .i64 0, .slice none 0 0]) ?_ 1 _ rfl; (with_reducible repeat (first | refine blk_drewN ?_ _ | refine blk_drew ?_ | refine blk_alloc ?_ _)); refine blk_put (cs := #[.string (⟨#[]⟩ : ByteArray), .string (⟨#[]⟩ : ByteArray), .bool false, .bool false, .int .i64 0, .slice none 0 0]) ?_ 0 _ rfl; (with_reducible repeat (first | refine blk_drewN ?_ _ | refine blk_drew ?_ | refine blk_alloc ?_ _)); exact BK112.out⟩, ⟨by repeat (first | (with_reducible first | exact HB.out | apply below_alloc | apply pw_below_drewN | apply below_drew1 | refine below_set ?_ GE108.out | refine below_set ?_ GE110.out | refine below_set ?_ GE112.out) | exact HB.out)⟩⟩
                                · rw [if_neg c39] at H
                                  have c39b0 : decide (300 < (((rd_T40 ((rd_T37 l0_0 x3_2).f6) x5_4).f5).length : Int)) = false := decide_eq_false c39
                                  have c39b1 : decide (300 < ((rd_T40 ((rd_T37 l0_0 x3_2).f6) x5_4).f5).length) = false := decide_eq_false (by omega)
                                  clear c39
                                  (first | rw [c39b0] | (simp only [i64_w, i32_w]; rw [c39b0]) | skip)
                                  by_cases c43 : (((rd_T40 ((rd_T37 l0_0 x3_2).f6) x5_4).f0).size : Int) > 300
                                  · rw [if_pos c43] at H
                                    have c43b0 : decide (300 < (((rd_T40 ((rd_T37 l0_0 x3_2).f6) x5_4).f0).size : Int)) = true := decide_eq_true c43
                                    have c43b1 : decide (300 < ((rd_T40 ((rd_T37 l0_0 x3_2).f6) x5_4).f0).size) = true := decide_eq_true (by omega)
                                    clear c43
                                    have H' := Aside0.mk H
                                    clear H
                                    have hnb44 := NB112_108.out
                                    have hnc44 := NB108_112.out
                                    have hnb45 := NB112_110.out
                                    have hnc45 := NB110_112.out
                                    have hcz46_0 : w35.cell? ⟨gb112, 0, none⟩ = some (.string (⟨#[]⟩ : ByteArray)) := (blk_cell BK112.out 0).trans rfl
                                    have hcz46_1 : w35.cell? ⟨gb112, 1, none⟩ = some (.string (⟨#[]⟩ : ByteArray)) := (blk_cell BK112.out 1).trans rfl
                                    have hcz46_2 : w35.cell? ⟨gb112, 2, none⟩ = some (.bool false) := (blk_cell BK112.out 2).trans rfl
                                    have hcz46_3 : w35.cell? ⟨gb112, 3, none⟩ = some (.bool false) := (blk_cell BK112.out 3).trans rfl
                                    have hcz46_4 : w35.cell? ⟨gb112, 4, none⟩ = some (.int .i64 0) := (blk_cell BK112.out 4).trans rfl
                                    have hcz46_5 : w35.cell? ⟨gb112, 5, none⟩ = some (.slice none 0 0) := (blk_cell BK112.out 5).trans rfl
                                    have hfz46_0 := blk_frozen BK112.out 0
                                    have hfz46_1 := blk_frozen BK112.out 1
                                    have hfz46_2 := blk_frozen BK112.out 2
                                    have hfz46_3 := blk_frozen BK112.out 3
                                    have hfz46_4 := blk_frozen BK112.out 4
                                    have hfz46_5 := blk_frozen BK112.out 5
                                    go_wp2
                                    go_meet
                                    case rel => exact ⟨_, (true), (by first | rfl | (simp; done) | (simp [*]; done)), H', ⟨by have := HJ1.out; have := HK2.out; have := HJ9.out; have := HK4.out; first | omega | exact Nat.le_refl _⟩, ⟨by (with_reducible repeat (first | refine blk_drewN ?_ _ | refine blk_drew ?_ | refine blk_alloc ?_ _)); refine blk_far ?_ NB108_112.out _; (with_reducible repeat (first | refine blk_drewN ?_ _ | refine blk_drew ?_ | refine blk_alloc ?_ _)); refine blk_far ?_ NB108_112.out _; (with_reducible repeat (first | refine blk_drewN ?_ _ | refine blk_drew ?_ | refine blk_alloc ?_ _)); refine blk_far ?_ NB108_112.out _; (with_reducible repeat (first | refine blk_drewN ?_ _ | refine blk_drew ?_ | refine blk_alloc ?_ _)); refine blk_far ?_ NB108_112.out _; (with_reducible repeat (first | refine blk_drewN ?_ _ | refine blk_drew ?_ | refine blk_alloc ?_ _)); refine blk_far ?_ NB108_112.out _; (with_reducible repeat (first | refine blk_drewN ?_ _ | refine blk_drew ?_ | refine blk_alloc ?_ _)); refine blk_far ?_ NB108_112.out _; (with_reducible repeat (first | refine blk_drewN ?_ _ | refine blk_drew ?_ | refine blk_alloc ?_ _)); exact BK108.out⟩, ⟨by (with_reducible repeat (first | refine blk_drewN ?_ _ | refine blk_drew ?_ | refine blk_alloc ?_ _)); refine blk_far ?_ NB110_112.out _; (with_reducible repeat (first | refine blk_drewN ?_ _ | refine blk_drew ?_ | refine blk_alloc ?_ _)); refine blk_far ?_ NB110_112.out _; (with_reducible repeat (first | refine blk_drewN ?_ _ | refine blk_drew ?_ | refine blk_alloc ?_ _)); refine blk_far ?_ NB110_112.out _; (with_reducible repeat (first | refine blk_drewN ?_ _ | refine blk_drew ?_ | refine blk_alloc ?_ _)); refine blk_far ?_ NB110_112.out _; (with_reducible repeat (first | refine blk_drewN ?_ _ | refine blk_drew ?_ | refine blk_alloc ?_ _)); refine blk_far ?_ NB110_112.out _; (with_reducible repeat (first | refine blk_drewN ?_ _ | refine blk_drew ?_ | refine blk_alloc ?_ _)); refine blk_far ?_ NB110_112.out _; (with_reducible repeat (first | refine blk_drewN ?_ _ | refine blk_drew ?_ | refine blk_alloc ?_ _)); exact BK110.out⟩, ⟨by (with_reducible repeat (first | refine blk_drewN ?_ _ | refine blk_drew ?_ | refine blk_alloc ?_ _)); refine blk_put (cs := #[.string ((rd_T40 ((rd_T37 l0_0 x3_2).f6) x5_4).f0), .string ((rd_T40 ((rd_T37 l0_0 x3_2).f6) x5_4).f1), .bool ((rd_T40 ((rd_T37 l0_0 x3_2).f6) x5_4).f2), .bool ((rd_T40 ((rd_T37 l0_0 x3_2).f6) x5_4).f3), .int .i64 ((rd_T40 ((rd_T37 l0_0 x3_2).f6) x5_4).f4), .slice none 0 0]) ?_ 5 _ rfl; (with_reducible repeat (first | refine blk_drewN ?_ _ | refine blk_drew ?_ | refine blk_alloc ?_ _)); refine blk_put (cs := #[.string ((rd_T40 ((rd_T37 l0_0 x3_2).f6) x5_4).f0), .string ((rd_T40 ((rd_T37 l0_0 x3_2).f6) x5_4).f1), .bool ((rd_T40 ((rd_T37 l0_0 x3_2).f6) x5_4).f2), .bool ((rd_T40 ((rd_T37 l0_0 x3_2).f6) x5_4).f3), .int .i64 0, .slice none 0 0]) ?_ 4 _ rfl; (with_reducible repeat (first | refine blk_drewN ?_ _ | refine blk_drew ?_ | refine blk_alloc ?_ _)); refine blk_put (cs := #[.string ((rd_T40 ((rd_T37 l0_0 x3_2).f6) x5_4).f0), .string ((rd_T40 ((rd_T37 l0_0 x3_2).f6) x5_4).f1), .bool ((rd_T40 ((rd_T37 l0_0 x3_2).f6) x5_4).f2), .bool false, .int .i64 0, .slice none 0 0]) ?_ 3 _ rfl; (with_reducible repeat (first | refine blk_drewN ?_ _ | refine blk_drew ?_ | refine blk_alloc ?_ _)); refine blk_put (cs := #[.string ((rd_T40 ((rd_T37 l0_0 x3_2).f6) x5_4).f0), .string ((rd_T40 ((rd_T37 l0_0 x3_2).f6) x5_4).f1), .bool false, .bool false, .int .i64 0, .slice none 0 0]) ?_ 2 _ rfl; (with_reducible repeat (first | refine blk_drewN ?_ _ | refine blk_drew ?_ | refine blk_alloc ?_ _)); refine blk_put (cs := #[.string ((rd_T40 ((rd_T37 l0_0 x3_2).f6) x5_4).f0), .string (⟨#[]⟩ : ByteArray), .bool false, .bool false, .int .i64 0, .slice none 0 0]) ?_ 1 _ rfl; (with_reducible repeat (first | refine blk_drewN ?_ _ | refine blk_drew ?_ | refine blk_alloc ?_ _)); refine blk_put (cs := #[.string (⟨#[]⟩ : ByteArray), .string (⟨#[]⟩ : ByteArray), .bool false, .bool false, .int .i64 0, .slice none 0 0]) ?_ 0 _ rfl; (with_reducible repeat (first | refine blk_drewN ?_ _ | refine blk_drew ?_ | refine blk_alloc ?_ _)); exact BK112.out⟩, ⟨by repeat (first | (with_reducible first | exact HB.out | apply below_alloc | apply pw_below_drewN | apply below_drew1 | refine below_set ?_ GE108.out | refine below_set ?_ GE110.out | refine below_set ?_ GE112.out) | exact HB.out)⟩⟩
                                  · rw [if_neg c43] at H
                                    have c43b0 : decide (300 < (((rd_T40 ((rd_T37 l0_0 x3_2).f6) x5_4).f0).size : Int)) = false := decide_eq_false c43
                                    have c43b1 : decide (300 < ((rd_T40 ((rd_T37 l0_0 x3_2).f6) x5_4).f0).size) = false := decide_eq_false (by omega)
                                    clear c43
                                    have H' := Aside0.mk H
                                    clear H
                                    have hnb47 := NB112_108.out
                                    have hnc47 := NB108_112.out
                                    have hnb48 := NB112_110.out
                                    have hnc48 := NB110_112.out
                                    have hcz49_0 : w35.cell? ⟨gb112, 0, none⟩ = some (.string (⟨#[]⟩ : ByteArray)) := (blk_cell BK112.out 0).trans rfl
                                    have hcz49_1 : w35.cell? ⟨gb112, 1, none⟩ = some (.string (⟨#[]⟩ : ByteArray)) := (blk_cell BK112.out 1).trans rfl
                                    have hcz49_2 : w35.cell? ⟨gb112, 2, none⟩ = some (.bool false) := (blk_cell BK112.out 2).trans rfl
                                    have hcz49_3 : w35.cell? ⟨gb112, 3, none⟩ = some (.bool false) := (blk_cell BK112.out 3).trans rfl
                                    have hcz49_4 : w35.cell? ⟨gb112, 4, none⟩ = some (.int .i64 0) := (blk_cell BK112.out 4).trans rfl
                                    have hcz49_5 : w35.cell? ⟨gb112, 5, none⟩ = some (.slice none 0 0) := (blk_cell BK112.out 5).trans rfl
                                    have hfz49_0 := blk_frozen BK112.out 0
                                    have hfz49_1 := blk_frozen BK112.out 1
                                    have hfz49_2 := blk_frozen BK112.out 2
                                    have hfz49_3 := blk_frozen BK112.out 3
                                    have hfz49_4 := blk_frozen BK112.out 4
                                    have hfz49_5 := blk_frozen BK112.out 5
                                    go_wp2
                                    go_meet
                                    case rel => exact ⟨_, (decide ((((rd_T40 ((rd_T37 l0_0 x3_2).f6) x5_4).f1).size : Int) > 300)), (by first | rfl | (simp; done) | (simp [*]; done)), H', ⟨by have := HJ1.out; have := HK2.out; have := HJ9.out; have := HK4.out; first | omega | exact Nat.le_refl _⟩, ⟨by (with_reducible repeat (first | refine blk_drewN ?_ _ | refine blk_drew ?_ | refine blk_alloc ?_ _)); refine blk_far ?_ NB108_112.out _; (with_reducible repeat (first | refine blk_drewN ?_ _ | refine blk_drew ?_ | refine blk_alloc ?_ _)); refine blk_far ?_ NB108_112.out _; (with_reducible repeat (first | refine blk_drewN ?_ _ | refine blk_drew ?_ | refine blk_alloc ?_ _)); refine blk_far ?_ NB108_112.out _; (with_reducible repeat (first | refine blk_drewN ?_ _ | refine blk_drew ?_ | refine blk_alloc ?_ _)); refine blk_far ?_ NB108_112.out _; (with_reducible repeat (first | refine blk_drewN ?_ _ | refine blk_drew ?_ | refine blk_alloc ?_ _)); refine blk_far ?_ NB108_112.out _; (with_reducible repeat (first | refine blk_drewN ?_ _ | refine blk_drew ?_ | refine blk_alloc ?_ _)); refine blk_far ?_ NB108_112.out _; (with_reducible repeat (first | refine blk_drewN ?_ _ | refine blk_drew ?_ | refine blk_alloc ?_ _)); exact BK108.out⟩, ⟨by (with_reducible repeat (first | refine blk_drewN ?_ _ | refine blk_drew ?_ | refine blk_alloc ?_ _)); refine blk_far ?_ NB110_112.out _; (with_reducible repeat (first | refine blk_drewN ?_ _ | refine blk_drew ?_ | refine blk_alloc ?_ _)); refine blk_far ?_ NB110_112.out _; (with_reducible repeat (first | refine blk_drewN ?_ _ | refine blk_drew ?_ | refine blk_alloc ?_ _)); refine blk_far ?_ NB110_112.out _; (with_reducible repeat (first | refine blk_drewN ?_ _ | refine blk_drew ?_ | refine blk_alloc ?_ _)); refine blk_far ?_ NB110_112.out _; (with_reducible repeat (first | refine blk_drewN ?_ _ | refine blk_drew ?_ | refine blk_alloc ?_ _)); refine blk_far ?_ NB110_112.out _; (with_reducible repeat (first | refine blk_drewN ?_ _ | refine blk_drew ?_ | refine blk_alloc ?_ _)); refine blk_far ?_ NB110_112.out _; (with_reducible repeat (first | refine blk_drewN ?_ _ | refine blk_drew ?_ | refine blk_alloc ?_ _)); exact BK110.out⟩, ⟨by (with_reducible repeat (first | refine blk_drewN ?_ _ | refine blk_drew ?_ | refine blk_alloc ?_ _)); refine blk_put (cs := #[.string ((rd_T40 ((rd_T37 l0_0 x3_2).f6) x5_4).f0), .string ((rd_T40 ((rd_T37 l0_0 x3_2).f6) x5_4).f1), .bool ((rd_T40 ((rd_T37 l0_0 x3_2).f6) x5_4).f2), .bool ((rd_T40 ((rd_T37 l0_0 x3_2).f6) x5_4).f3), .int .i64 ((rd_T40 ((rd_T37 l0_0 x3_2).f6) x5_4).f4), .slice none 0 0]) ?_ 5 _ rfl; (with_reducible repeat (first | refine blk_drewN ?_ _ | refine blk_drew ?_ | refine blk_alloc ?_ _)); refine blk_put (cs := #[.string ((rd_T40 ((rd_T37 l0_0 x3_2).f6) x5_4).f0), .string ((rd_T40 ((rd_T37 l0_0 x3_2).f6) x5_4).f1), .bool ((rd_T40 ((rd_T37 l0_0 x3_2).f6) x5_4).f2), .bool ((rd_T40 ((rd_T37 l0_0 x3_2).f6) x5_4).f3), .int .i64 0, .slice none 0 0]) ?_ 4 _ rfl; (with_reducible repeat (first | refine blk_drewN ?_ _ | refine blk_drew ?_ | refine blk_alloc ?_ _)); refine blk_put (cs := #[.string ((rd_T40 ((rd_T37 l0_0 x3_2).f6) x5_4).f0), .string ((rd_T40 ((rd_T37 l0_0 x3_2).f6) x5_4).f1), .bool ((rd_T40 ((rd_T37 l0_0 x3_2).f6) x5_4).f2), .bool false, .int .i64 0, .slice none 0 0]) ?_ 3 _ rfl; (with_reducible repeat (first | refine blk_drewN ?_ _ | refine blk_drew ?_ | refine blk_alloc ?_ _)); refine blk_put (cs := #[.string ((rd_T40 ((rd_T37 l0_0 x3_2).f6) x5_4).f0), .string ((rd_T40 ((rd_T37 l0_0 x3_2).f6) x5_4).f1), .bool false, .bool false, .int .i64 0, .slice none 0 0]) ?_ 2 _ rfl; (with_reducible repeat (first | refine blk_drewN ?_ _ | refine blk_drew ?_ | refine blk_alloc ?_ _)); refine blk_put (cs := #[.string ((rd_T40 ((rd_T37 l0_0 x3_2).f6) x5_4).f0), .string (⟨#[]⟩ : ByteArray), .bool false, .bool false, .int .i64 0, .slice none 0 0]) ?_ 1 _ rfl; (with_reducible repeat (first | refine blk_drewN ?_ _ | refine blk_drew ?_ | refine blk_alloc ?_ _)); refine blk_put (cs := #[.string (⟨#[]⟩ : ByteArray), .string (⟨#[]⟩ : ByteArray), .bool false, .bool false, .int .i64 0, .slice none 0 0]) ?_ 0 _ rfl; (with_reducible repeat (first | refine blk_drewN ?_ _ | refine blk_drew ?_ | refine blk_alloc ?_ _)); exact BK112.out⟩, ⟨by repeat (first | (with_reducible first | exact HB.out | apply below_alloc | apply pw_below_drewN | apply below_drew1 | refine below_set ?_ GE108.out | refine below_set ?_ GE110.out | refine below_set ?_ GE112.out) | exact HB.out)⟩⟩
                              case rest =>
                                clear HC32
                                try clear c1
                                try clear p1
                                try clear q1
                                try clear hx1
                                try clear c2
                                try clear p2
                                try clear c3
                                try clear c4
                                try clear c4b0
                                try clear c4b1
                                try clear c7
                                try clear c8
                                try clear c8b0
                                try clear c9
                                try clear c9b0
                                try clear c10
                                try clear p10
                                try clear q10
                                try clear hx10
                                try clear c11
                                try clear p11
                                try clear q11
                                try clear hx11
                                try clear c13
                                try clear c15
                                try clear c15b0
                                try clear c15b1
                                try clear c16
                                try clear c18
                                try clear c18b0
                                try clear c18b1
                                try clear c19
                                try clear c21
                                try clear c21b0
                                try clear c21b1
                                try clear c22
                                try clear c24
                                try clear c24b0
                                try clear c24b1
                                try clear c25
                                try clear c27
                                try clear c29
                                try clear c30
                                try clear c30b0
                                try clear c31
                                try clear c31b0
                                try clear c33
                                try clear c36
                                try clear c37
                                try clear c39
                                try clear c39b0
                                try clear c39b1
                                try clear c40
                                try clear c41
                                try clear c43
                                try clear c43b0
                                try clear c43b1
                                try clear c44
                                try clear c45
                                try clear c47
                                try clear c48
                                try clear hcz11_0
                                try clear hcz11_1
                                try clear hcz11_2
                                try clear hcz11_3
                                try clear hcz11_4
                                try clear hcz14_0
                                try clear hcz14_1
                                try clear hcz14_2
                                try clear hcz14_3
                                try clear hcz14_4
                                try clear hcz14_5
                                try clear hcz14_6
                                try clear hcz17_0
                                try clear hcz17_1
                                try clear hcz17_2
                                try clear hcz17_3
                                try clear hcz17_4
                                try clear hcz17_5
                                try clear hcz17_6
                                try clear hcz20_0
                                try clear hcz20_1
                                try clear hcz20_2
                                try clear hcz20_3
                                try clear hcz20_4
                                try clear hcz20_5
                                try clear hcz20_6
                                try clear hcz23_0
                                try clear hcz23_1
                                try clear hcz23_2
                                try clear hcz23_3
                                try clear hcz23_4
                                try clear hcz23_5
                                try clear hcz23_6
                                try clear hcz26_0
                                try clear hcz26_1
                                try clear hcz26_2
                                try clear hcz26_3
                                try clear hcz26_4
                                try clear hcz26_5
                                try clear hcz26_6
                                try clear hcz28_0
                                try clear hcz28_1
                                try clear hcz28_2
                                try clear hcz28_3
                                try clear hcz28_4
                                try clear hcz28_5
                                try clear hcz28_6
                                try clear hcz34_0
                                try clear hcz34_1
                                try clear hcz34_2
                                try clear hcz34_3
                                try clear hcz34_4
                                try clear hcz34_5
                                try clear hcz34_6
                                try clear hcz38_0
                                try clear hcz38_1
                                try clear hcz38_2
                                try clear hcz38_3
                                try clear hcz38_4
                                try clear hcz38_5
                                try clear hcz42_0
                                try clear hcz42_1
                                try clear hcz42_2
                                try clear hcz42_3
                                try clear hcz42_4
                                try clear hcz42_5
                                try clear hcz46_0
                                try clear hcz46_1
                                try clear hcz46_2
                                try clear hcz46_3
                                try clear hcz46_4
                                try clear hcz46_5
                                try clear hcz49_0
                                try clear hcz49_1
                                try clear hcz49_2
                                try clear hcz49_3
                                try clear hcz49_4
                                try clear hcz49_5
                                try clear hcz5_0
                                try clear hcz5_1
                                try clear hcz5_2
                                try clear hcz5_3
                                try clear hcz5_4
                                try clear hcz6_0
                                try clear hcz6_1
                                try clear hcz6_2
                                try clear hcz6_3
                                try clear hcz6_4
                                try clear hfz11_0
                                try clear hfz11_1
                                try clear hfz11_2
                                try clear hfz11_3
                                try clear hfz11_4
                                try clear hfz14_0
                                try clear hfz14_1
                                try clear hfz14_2
                                try clear hfz14_3
                                try clear hfz14_4
                                try clear hfz14_5
                                try clear hfz14_6
                                try clear hfz17_0
                                try clear hfz17_1
                                try clear hfz17_2
                                try clear hfz17_3
                                try clear hfz17_4
                                try clear hfz17_5
                                try clear hfz17_6
                                try clear hfz20_0
                                try clear hfz20_1
                                try clear hfz20_2
                                try clear hfz20_3
                                try clear hfz20_4
                                try clear hfz20_5
                                try clear hfz20_6
                                try clear hfz23_0
                                try clear hfz23_1
                                try clear hfz23_2
                                try clear hfz23_3
                                try clear hfz23_4
                                try clear hfz23_5
                                try clear hfz23_6
                                try clear hfz26_0
                                try clear hfz26_1
                                try clear hfz26_2
                                try clear hfz26_3
                                try clear hfz26_4
                                try clear hfz26_5
                                try clear hfz26_6
                                try clear hfz28_0
                                try clear hfz28_1
                                try clear hfz28_2
                                try clear hfz28_3
                                try clear hfz28_4
                                try clear hfz28_5
                                try clear hfz28_6
                                try clear hfz34_0
                                try clear hfz34_1
                                try clear hfz34_2
                                try clear hfz34_3
                                try clear hfz34_4
                                try clear hfz34_5
                                try clear hfz34_6
                                try clear hfz38_0
                                try clear hfz38_1
                                try clear hfz38_2
                                try clear hfz38_3
                                try clear hfz38_4
                                try clear hfz38_5
                                try clear hfz42_0
                                try clear hfz42_1
                                try clear hfz42_2
                                try clear hfz42_3
                                try clear hfz42_4
                                try clear hfz42_5
                                try clear hfz46_0
                                try clear hfz46_1
                                try clear hfz46_2
                                try clear hfz46_3
                                try clear hfz46_4
                                try clear hfz46_5
                                try clear hfz49_0
                                try clear hfz49_1
                                try clear hfz49_2
                                try clear hfz49_3
                                try clear hfz49_4
                                try clear hfz49_5
                                try clear hfz5_0
                                try clear hfz5_1
                                try clear hfz5_2
                                try clear hfz5_3
                                try clear hfz5_4
                                try clear hfz6_0
                                try clear hfz6_1
                                try clear hfz6_2
                                try clear hfz6_3
                                try clear hfz6_4
                                try clear hx109_0
                                try clear hx109_1
                                try clear hx109_2
                                try clear hx109_3
                                try clear hx109_4
                                try clear hx109_5
                                try clear hx109_6
                                try clear hx111_0
                                try clear hx111_1
                                try clear hx111_2
                                try clear hx111_3
                                try clear hx111_4
                                try clear hx111_5
                                try clear p1
                                try clear p10
                                try clear p109
                                try clear p111
                                try clear p2
                                try clear q1
                                try clear q10
                                try clear q109
                                try clear q111
                                obtain ⟨kq, x85_31, rfl, HA, HJ31, BK108, BK110, BK112, HB⟩ := hcut
                                cases kq with
                                | zero => exact absurd HA.out (by simp [secateurlaw08_Great.j4])
                                | succ kj31 =>
                                  have H := HA.out
                                  clear HA
                                  simp only [secateurlaw08_Great.j4] at H
                                  by_cases c50 : x85_31 = true
                                  · subst c50
                                    have H1 : (some true) = some r := by rw [if_pos rfl] at H; exact H
                                    clear H
                                    have H := H1
                                    clear H1
                                    obtain rfl := Option.some.inj H
                                    simp only [Option.some.injEq, Prod.mk.injEq] at H
                                    obtain ⟨rfl⟩ := H
                                    go_wp2
                                    go_ret
                                    exact ⟨by first | rfl | (simp [errW_none, errW_some] <;> rfl) | (simp [*, errW_none, errW_some] <;> rfl), by repeat (first | (with_reducible first | exact HB.out | apply below_alloc | apply pw_below_drewN | apply below_drew1 | refine below_set ?_ GE108.out | refine below_set ?_ GE110.out | refine below_set ?_ GE112.out) | exact HB.out)⟩
                                  · replace c50 := Bool.eq_false_iff.mpr c50
                                    subst c50
                                    have H1 : (secateurlaw08_Great.l2 kj31 x3_2 x5_4 0 l0_0 l0_1 a0_2 a0_3 a0_4 ((rd_T37 l0_0 x3_2).f0) ((rd_T37 l0_0 x3_2).f1) ((rd_T37 l0_0 x3_2).f2) ((rd_T37 l0_0 x3_2).f3) ((rd_T37 l0_0 x3_2).f4) ((rd_T37 l0_0 x3_2).f5) ((rd_T37 l0_0 x3_2).f6) ((rd_T40 ((rd_T37 l0_0 x3_2).f6) x5_4).f0) ((rd_T40 ((rd_T37 l0_0 x3_2).f6) x5_4).f1) ((rd_T40 ((rd_T37 l0_0 x3_2).f6) x5_4).f2) ((rd_T40 ((rd_T37 l0_0 x3_2).f6) x5_4).f3) ((rd_T40 ((rd_T37 l0_0 x3_2).f6) x5_4).f4) ((rd_T40 ((rd_T37 l0_0 x3_2).f6) x5_4).f5)) = some r := by rw [if_neg (show ¬ (false = true) by decide)] at H; exact H
                                    clear H
                                    have H := H1
                                    clear H1
                                    have H' := Aside0.mk H
                                    clear H
                                    go_wp2
                                    go_loopg [7] kj31 (fun kq v7 w' => ∃ (x7_6 : Int), v7 = .int .i64 x7_6 ∧ Aside0 (secateurlaw08_Great.l2 kq x3_2 x5_4 x7_6 l0_0 l0_1 a0_2 a0_3 a0_4 ((rd_T37 l0_0 x3_2).f0) ((rd_T37 l0_0 x3_2).f1) ((rd_T37 l0_0 x3_2).f2) ((rd_T37 l0_0 x3_2).f3) ((rd_T37 l0_0 x3_2).f4) ((rd_T37 l0_0 x3_2).f5) ((rd_T37 l0_0 x3_2).f6) ((rd_T40 ((rd_T37 l0_0 x3_2).f6) x5_4).f0) ((rd_T40 ((rd_T37 l0_0 x3_2).f6) x5_4).f1) ((rd_T40 ((rd_T37 l0_0 x3_2).f6) x5_4).f2) ((rd_T40 ((rd_T37 l0_0 x3_2).f6) x5_4).f3) ((rd_T40 ((rd_T37 l0_0 x3_2).f6) x5_4).f4) ((rd_T40 ((rd_T37 l0_0 x3_2).f6) x5_4).f5) = some r) ∧ Aside0 (kq ≤ kj31) ∧ Aside0 (w'.heap[gb108]? = some (.cells #[(.slice (some ad109) l0_0.length c0_0), (.slice A0_1 l0_1.length c0_1), .string a0_2, .string a0_3, .string a0_4] 27 (0, 0))) ∧ Aside0 (w'.heap[gb110]? = some (.cells #[.string ((rd_T37 l0_0 x3_2).f0), .string ((rd_T37 l0_0 x3_2).f1), .bool ((rd_T37 l0_0 x3_2).f2), .bool ((rd_T37 l0_0 x3_2).f3), (.slice A109_4 ((rd_T37 l0_0 x3_2).f4).length c109_4), (.slice A109_5 ((rd_T37 l0_0 x3_2).f5).length c109_5), (.slice (some ad111) ((rd_T37 l0_0 x3_2).f6).length c109_6)] 37 (0, 0))) ∧ Aside0 (w'.heap[gb112]? = some (.cells #[.string ((rd_T40 ((rd_T37 l0_0 x3_2).f6) x5_4).f0), .string ((rd_T40 ((rd_T37 l0_0 x3_2).f6) x5_4).f1), .bool ((rd_T40 ((rd_T37 l0_0 x3_2).f6) x5_4).f2), .bool ((rd_T40 ((rd_T37 l0_0 x3_2).f6) x5_4).f3), .int .i64 ((rd_T40 ((rd_T37 l0_0 x3_2).f6) x5_4).f4), (.slice A111_5 ((rd_T40 ((rd_T37 l0_0 x3_2).f6) x5_4).f5).length c111_5)] 40 (0, 0))) ∧ Aside0 (Below w.heap.size w w'))
                                    case atStart => exact ⟨(0), (by first | rfl | (simp; done) | (simp [*]; done)), H', ⟨Nat.le_refl _⟩, ⟨by (with_reducible repeat (first | refine blk_drewN ?_ _ | refine blk_drew ?_ | refine blk_alloc ?_ _)); exact BK108.out⟩, ⟨by (with_reducible repeat (first | refine blk_drewN ?_ _ | refine blk_drew ?_ | refine blk_alloc ?_ _)); exact BK110.out⟩, ⟨by (with_reducible repeat (first | refine blk_drewN ?_ _ | refine blk_drew ?_ | refine blk_alloc ?_ _)); exact BK112.out⟩, ⟨by repeat (first | (with_reducible first | exact HB.out | apply below_alloc | apply pw_below_drewN | apply below_drew1 | refine below_set ?_ GE108.out | refine below_set ?_ GE110.out | refine below_set ?_ GE112.out) | exact HB.out)⟩⟩
                                    case round =>
                                      clear H'
                                      try clear c1
                                      try clear p1
                                      try clear q1
                                      try clear hx1
                                      try clear c2
                                      try clear p2
                                      try clear c3
                                      try clear c4
                                      try clear c4b0
                                      try clear c4b1
                                      try clear c5
                                      try clear c7
                                      try clear c8
                                      try clear c8b0
                                      try clear c9
                                      try clear c9b0
                                      try clear c10
                                      try clear p10
                                      try clear q10
                                      try clear hx10
                                      try clear c11
                                      try clear p11
                                      try clear q11
                                      try clear hx11
                                      try clear c13
                                      try clear c15
                                      try clear c15b0
                                      try clear c15b1
                                      try clear c16
                                      try clear c18
                                      try clear c18b0
                                      try clear c18b1
                                      try clear c19
                                      try clear c21
                                      try clear c21b0
                                      try clear c21b1
                                      try clear c22
                                      try clear c24
                                      try clear c24b0
                                      try clear c24b1
                                      try clear c25
                                      try clear c27
                                      try clear c29
                                      try clear c30
                                      try clear c30b0
                                      try clear c31
                                      try clear c31b0
                                      try clear c33
                                      try clear c36
                                      try clear c37
                                      try clear c39
                                      try clear c39b0
                                      try clear c39b1
                                      try clear c40
                                      try clear c41
                                      try clear c43
                                      try clear c43b0
                                      try clear c43b1
                                      try clear c44
                                      try clear c45
                                      try clear c47
                                      try clear c48
                                      try clear c50
                                      try clear hcz11_0
                                      try clear hcz11_1
                                      try clear hcz11_2
                                      try clear hcz11_3
                                      try clear hcz11_4
                                      try clear hcz14_0
                                      try clear hcz14_1
                                      try clear hcz14_2
                                      try clear hcz14_3
                                      try clear hcz14_4
                                      try clear hcz14_5
                                      try clear hcz14_6
                                      try clear hcz17_0
                                      try clear hcz17_1
                                      try clear hcz17_2
                                      try clear hcz17_3
                                      try clear hcz17_4
                                      try clear hcz17_5
                                      try clear hcz17_6
                                      try clear hcz20_0
                                      try clear hcz20_1
                                      try clear hcz20_2
                                      try clear hcz20_3
                                      try clear hcz20_4
                                      try clear hcz20_5
                                      try clear hcz20_6
                                      try clear hcz23_0
                                      try clear hcz23_1
                                      try clear hcz23_2
                                      try clear hcz23_3
                                      try clear hcz23_4
                                      try clear hcz23_5
                                      try clear hcz23_6
                                      try clear hcz26_0
                                      try clear hcz26_1
                                      try clear hcz26_2
                                      try clear hcz26_3
                                      try clear hcz26_4
                                      try clear hcz26_5
                                      try clear hcz26_6
                                      try clear hcz28_0
                                      try clear hcz28_1
                                      try clear hcz28_2
                                      try clear hcz28_3
                                      try clear hcz28_4
                                      try clear hcz28_5
                                      try clear hcz28_6
                                      try clear hcz34_0
                                      try clear hcz34_1
                                      try clear hcz34_2
                                      try clear hcz34_3
                                      try clear hcz34_4
                                      try clear hcz34_5
                                      try clear hcz34_6
                                      try clear hcz38_0
                                      try clear hcz38_1
                                      try clear hcz38_2
                                      try clear hcz38_3
                                      try clear hcz38_4
                                      try clear hcz38_5
                                      try clear hcz42_0
                                      try clear hcz42_1
                                      try clear hcz42_2
                                      try clear hcz42_3
                                      try clear hcz42_4
                                      try clear hcz42_5
                                      try clear hcz46_0
                                      try clear hcz46_1
                                      try clear hcz46_2
                                      try clear hcz46_3
                                      try clear hcz46_4
                                      try clear hcz46_5
                                      try clear hcz49_0
                                      try clear hcz49_1
                                      try clear hcz49_2
                                      try clear hcz49_3
                                      try clear hcz49_4
                                      try clear hcz49_5
                                      try clear hcz5_0
                                      try clear hcz5_1
                                      try clear hcz5_2
                                      try clear hcz5_3
                                      try clear hcz5_4
                                      try clear hcz6_0
                                      try clear hcz6_1
                                      try clear hcz6_2
                                      try clear hcz6_3
                                      try clear hcz6_4
                                      try clear hfz11_0
                                      try clear hfz11_1
                                      try clear hfz11_2
                                      try clear hfz11_3
                                      try clear hfz11_4
                                      try clear hfz14_0
                                      try clear hfz14_1
                                      try clear hfz14_2
                                      try clear hfz14_3
                                      try clear hfz14_4
                                      try clear hfz14_5
                                      try clear hfz14_6
                                      try clear hfz17_0
                                      try clear hfz17_1
                                      try clear hfz17_2
                                      try clear hfz17_3
                                      try clear hfz17_4
                                      try clear hfz17_5
                                      try clear hfz17_6
                                      try clear hfz20_0
                                      try clear hfz20_1
                                      try clear hfz20_2
                                      try clear hfz20_3
                                      try clear hfz20_4
                                      try clear hfz20_5
                                      try clear hfz20_6
                                      try clear hfz23_0
                                      try clear hfz23_1
                                      try clear hfz23_2
                                      try clear hfz23_3
                                      try clear hfz23_4
                                      try clear hfz23_5
                                      try clear hfz23_6
                                      try clear hfz26_0
                                      try clear hfz26_1
                                      try clear hfz26_2
                                      try clear hfz26_3
                                      try clear hfz26_4
                                      try clear hfz26_5
                                      try clear hfz26_6
                                      try clear hfz28_0
                                      try clear hfz28_1
                                      try clear hfz28_2
                                      try clear hfz28_3
                                      try clear hfz28_4
                                      try clear hfz28_5
                                      try clear hfz28_6
                                      try clear hfz34_0
                                      try clear hfz34_1
                                      try clear hfz34_2
                                      try clear hfz34_3
                                      try clear hfz34_4
                                      try clear hfz34_5
                                      try clear hfz34_6
                                      try clear hfz38_0
                                      try clear hfz38_1
                                      try clear hfz38_2
                                      try clear hfz38_3
                                      try clear hfz38_4
                                      try clear hfz38_5
                                      try clear hfz42_0
                                      try clear hfz42_1
                                      try clear hfz42_2
                                      try clear hfz42_3
                                      try clear hfz42_4
                                      try clear hfz42_5
                                      try clear hfz46_0
                                      try clear hfz46_1
                                      try clear hfz46_2
                                      try clear hfz46_3
                                      try clear hfz46_4
                                      try clear hfz46_5
                                      try clear hfz49_0
                                      try clear hfz49_1
                                      try clear hfz49_2
                                      try clear hfz49_3
                                      try clear hfz49_4
                                      try clear hfz49_5
                                      try clear hfz5_0
                                      try clear hfz5_1
                                      try clear hfz5_2
                                      try clear hfz5_3
                                      try clear hfz5_4
                                      try clear hfz6_0
                                      try clear hfz6_1
                                      try clear hfz6_2
                                      try clear hfz6_3
                                      try clear hfz6_4
                                      try clear hx109_0
                                      try clear hx109_1
                                      try clear hx109_2
                                      try clear hx109_3
                                      try clear hx109_4
                                      try clear hx109_5
                                      try clear hx109_6
                                      try clear hx111_0
                                      try clear hx111_1
                                      try clear hx111_2
                                      try clear hx111_3
                                      try clear hx111_4
                                      try clear hx111_5
                                      try clear p1
                                      try clear p10
                                      try clear p109
                                      try clear p11
                                      try clear p111
                                      try clear p2
                                      try clear q1
                                      try clear q10
                                      try clear q109
                                      try clear q11
                                      try clear q111
                                      obtain ⟨x7_6, rfl, HA, HK6, BK108, BK110, BK112, HB⟩ := hrel
                                      cases gk with
                                      | zero => exact absurd HA.out (by simp [secateurlaw08_Great.l2])
                                      | succ k6 =>
                                        have H := HA.out
                                        clear HA
                                        simp only [secateurlaw08_Great.l2] at H
                                        by_cases c51 : x7_6 < (((rd_T40 ((rd_T37 l0_0 x3_2).f6) x5_4).f5).length : Int)
                                        · rw [if_pos c51] at H
                                          have c51b0 : decide (x7_6 < (((rd_T40 ((rd_T37 l0_0 x3_2).f6) x5_4).f5).length : Int)) = true := decide_eq_true c51
                                          clear c51
                                          by_cases c52 : 0 ≤ x7_6
                                          · rw [if_pos c52] at H
                                            have c52b0 : decide (0 ≤ x7_6) = true := decide_eq_true c52
                                            clear c52
                                            by_cases c53 : (((rd_T44 ((rd_T40 ((rd_T37 l0_0 x3_2).f6) x5_4).f5) x7_6).f8).length : Int) > 60
                                            · rw [if_pos c53] at H
                                              have c53b0 : decide (60 < (((rd_T44 ((rd_T40 ((rd_T37 l0_0 x3_2).f6) x5_4).f5) x7_6).f8).length : Int)) = true := decide_eq_true c53
                                              have c53b1 : decide (60 < ((rd_T44 ((rd_T40 ((rd_T37 l0_0 x3_2).f6) x5_4).f5) x7_6).f8).length) = true := decide_eq_true (by omega)
                                              clear c53
                                              obtain rfl := Option.some.inj H
                                              simp only [Option.some.injEq, Prod.mk.injEq] at H
                                              obtain ⟨rfl⟩ := H
                                              have hnb54 := NB112_108.out
                                              have hnc54 := NB108_112.out
                                              have hnb55 := NB112_110.out
                                              have hnc55 := NB110_112.out
                                              have hcz56_0 : wr.cell? ⟨gb112, 0, none⟩ = some (.string ((rd_T40 ((rd_T37 l0_0 x3_2).f6) x5_4).f0)) := (blk_cell BK112.out 0).trans rfl
                                              have hcz56_1 : wr.cell? ⟨gb112, 1, none⟩ = some (.string ((rd_T40 ((rd_T37 l0_0 x3_2).f6) x5_4).f1)) := (blk_cell BK112.out 1).trans rfl
                                              have hcz56_2 : wr.cell? ⟨gb112, 2, none⟩ = some (.bool ((rd_T40 ((rd_T37 l0_0 x3_2).f6) x5_4).f2)) := (blk_cell BK112.out 2).trans rfl
                                              have hcz56_3 : wr.cell? ⟨gb112, 3, none⟩ = some (.bool ((rd_T40 ((rd_T37 l0_0 x3_2).f6) x5_4).f3)) := (blk_cell BK112.out 3).trans rfl
                                              have hcz56_4 : wr.cell? ⟨gb112, 4, none⟩ = some (.int .i64 ((rd_T40 ((rd_T37 l0_0 x3_2).f6) x5_4).f4)) := (blk_cell BK112.out 4).trans rfl
                                              have hcz56_5 : wr.cell? ⟨gb112, 5, none⟩ = some (.slice A111_5 ((rd_T40 ((rd_T37 l0_0 x3_2).f6) x5_4).f5).length c111_5) := (blk_cell BK112.out 5).trans rfl
                                              have hfz56_0 := blk_frozen BK112.out 0
                                              have hfz56_1 := blk_frozen BK112.out 1
                                              have hfz56_2 := blk_frozen BK112.out 2
                                              have hfz56_3 := blk_frozen BK112.out 3
                                              have hfz56_4 := blk_frozen BK112.out 4
                                              have hfz56_5 := blk_frozen BK112.out 5
                                              have p113 : 0 ≤ (x7_6 : Int) := of_decide_eq_true (by first | (with_reducible assumption) | assumption)
                                              have q113 : x7_6 < (((rd_T40 ((rd_T37 l0_0 x3_2).f6) x5_4).f5).length : Int) := of_decide_eq_true (by first | (with_reducible assumption) | assumption)
                                              obtain ⟨ad113, A113_8, c113_8, e113, hx113_0, hx113_1, hx113_2, hx113_3, hx113_4, hx113_5, hx113_6, hx113_7, hx113_8, hl113_8, hi113_8⟩ := at_T44 HR111_5.out x7_6 p113 q113
                                              cases e113
                                              replace hx113_0 := (HB.out.cell (World.block_lt_of_cell? w _ hx113_0)).trans hx113_0
                                              replace hx113_1 := (HB.out.cell (World.block_lt_of_cell? w _ hx113_1)).trans hx113_1
                                              replace hx113_2 := (HB.out.cell (World.block_lt_of_cell? w _ hx113_2)).trans hx113_2
                                              replace hx113_3 := (HB.out.cell (World.block_lt_of_cell? w _ hx113_3)).trans hx113_3
                                              replace hx113_4 := (HB.out.cell (World.block_lt_of_cell? w _ hx113_4)).trans hx113_4
                                              replace hx113_5 := (HB.out.cell (World.block_lt_of_cell? w _ hx113_5)).trans hx113_5
                                              replace hx113_6 := (HB.out.cell (World.block_lt_of_cell? w _ hx113_6)).trans hx113_6
                                              replace hx113_7 := (HB.out.cell (World.block_lt_of_cell? w _ hx113_7)).trans hx113_7
                                              replace hx113_8 := (HB.out.cell (World.block_lt_of_cell? w _ hx113_8)).trans hx113_8
                                              have HR113_8 := Aside0.mk hi113_8
                                              have HC113_8 := Aside0.mk hl113_8
                                              clear hi113_8 hl113_8
                                              replace p113 := eq_true p113
                                              replace q113 := eq_true q113
                                              go_wp2
                                              go_ret
                                              exact ⟨by first | rfl | (simp [errW_none, errW_some] <;> rfl) | (simp [*, errW_none, errW_some] <;> rfl), by repeat (first | (with_reducible first | exact HB.out | apply below_alloc | apply pw_below_drewN | apply below_drew1 | refine below_set ?_ GE108.out | refine below_set ?_ GE110.out | refine below_set ?_ GE112.out) | exact HB.out)⟩
                                            · rw [if_neg c53] at H
                                              have c53b0 : decide (60 < (((rd_T44 ((rd_T40 ((rd_T37 l0_0 x3_2).f6) x5_4).f5) x7_6).f8).length : Int)) = false := decide_eq_false c53
                                              have c53b1 : decide (60 < ((rd_T44 ((rd_T40 ((rd_T37 l0_0 x3_2).f6) x5_4).f5) x7_6).f8).length) = false := decide_eq_false (by omega)
                                              clear c53
                                              by_cases c57 : (((rd_T44 ((rd_T40 ((rd_T37 l0_0 x3_2).f6) x5_4).f5) x7_6).f5).size : Int) > 300
                                              · rw [if_pos c57] at H
                                                have c57b0 : decide (300 < (((rd_T44 ((rd_T40 ((rd_T37 l0_0 x3_2).f6) x5_4).f5) x7_6).f5).size : Int)) = true := decide_eq_true c57
                                                have c57b1 : decide (300 < ((rd_T44 ((rd_T40 ((rd_T37 l0_0 x3_2).f6) x5_4).f5) x7_6).f5).size) = true := decide_eq_true (by omega)
                                                clear c57
                                                obtain rfl := Option.some.inj H
                                                simp only [Option.some.injEq, Prod.mk.injEq] at H
                                                obtain ⟨rfl⟩ := H
                                                have hnb58 := NB112_108.out
                                                have hnc58 := NB108_112.out
                                                have hnb59 := NB112_110.out
                                                have hnc59 := NB110_112.out
                                                have hcz60_0 : wr.cell? ⟨gb112, 0, none⟩ = some (.string ((rd_T40 ((rd_T37 l0_0 x3_2).f6) x5_4).f0)) := (blk_cell BK112.out 0).trans rfl
                                                have hcz60_1 : wr.cell? ⟨gb112, 1, none⟩ = some (.string ((rd_T40 ((rd_T37 l0_0 x3_2).f6) x5_4).f1)) := (blk_cell BK112.out 1).trans rfl
                                                have hcz60_2 : wr.cell? ⟨gb112, 2, none⟩ = some (.bool ((rd_T40 ((rd_T37 l0_0 x3_2).f6) x5_4).f2)) := (blk_cell BK112.out 2).trans rfl
                                                have hcz60_3 : wr.cell? ⟨gb112, 3, none⟩ = some (.bool ((rd_T40 ((rd_T37 l0_0 x3_2).f6) x5_4).f3)) := (blk_cell BK112.out 3).trans rfl
                                                have hcz60_4 : wr.cell? ⟨gb112, 4, none⟩ = some (.int .i64 ((rd_T40 ((rd_T37 l0_0 x3_2).f6) x5_4).f4)) := (blk_cell BK112.out 4).trans rfl
                                                have hcz60_5 : wr.cell? ⟨gb112, 5, none⟩ = some (.slice A111_5 ((rd_T40 ((rd_T37 l0_0 x3_2).f6) x5_4).f5).length c111_5) := (blk_cell BK112.out 5).trans rfl
                                                have hfz60_0 := blk_frozen BK112.out 0
                                                have hfz60_1 := blk_frozen BK112.out 1
                                                have hfz60_2 := blk_frozen BK112.out 2
                                                have hfz60_3 := blk_frozen BK112.out 3
                                                have hfz60_4 := blk_frozen BK112.out 4
                                                have hfz60_5 := blk_frozen BK112.out 5
                                                have p113 : 0 ≤ (x7_6 : Int) := of_decide_eq_true (by first | (with_reducible assumption) | assumption)
                                                have q113 : x7_6 < (((rd_T40 ((rd_T37 l0_0 x3_2).f6) x5_4).f5).length : Int) := of_decide_eq_true (by first | (with_reducible assumption) | assumption)
                                                obtain ⟨ad113, A113_8, c113_8, e113, hx113_0, hx113_1, hx113_2, hx113_3, hx113_4, hx113_5, hx113_6, hx113_7, hx113_8, hl113_8, hi113_8⟩ := at_T44 HR111_5.out x7_6 p113 q113
                                                cases e113
                                                replace hx113_0 := (HB.out.cell (World.block_lt_of_cell? w _ hx113_0)).trans hx113_0
                                                replace hx113_1 := (HB.out.cell (World.block_lt_of_cell? w _ hx113_1)).trans hx113_1
                                                replace hx113_2 := (HB.out.cell (World.block_lt_of_cell? w _ hx113_2)).trans hx113_2
                                                replace hx113_3 := (HB.out.cell (World.block_lt_of_cell? w _ hx113_3)).trans hx113_3
                                                replace hx113_4 := (HB.out.cell (World.block_lt_of_cell? w _ hx113_4)).trans hx113_4
                                                replace hx113_5 := (HB.out.cell (World.block_lt_of_cell? w _ hx113_5)).trans hx113_5
                                                replace hx113_6 := (HB.out.cell (World.block_lt_of_cell? w _ hx113_6)).trans hx113_6
                                                replace hx113_7 := (HB.out.cell (World.block_lt_of_cell? w _ hx113_7)).trans hx113_7
                                                replace hx113_8 := (HB.out.cell (World.block_lt_of_cell? w _ hx113_8)).trans hx113_8
                                                have HR113_8 := Aside0.mk hi113_8
                                                have HC113_8 := Aside0.mk hl113_8
                                                clear hi113_8 hl113_8
                                                replace p113 := eq_true p113
                                                replace q113 := eq_true q113
                                                have p114 : 0 ≤ (x7_6 : Int) := of_decide_eq_true (by first | (with_reducible assumption) | assumption)
                                                have q114 : x7_6 < (((rd_T40 ((rd_T37 l0_0 x3_2).f6) x5_4).f5).length : Int) := of_decide_eq_true (by first | (with_reducible assumption) | assumption)
                                                obtain ⟨ad114, A114_8, c114_8, e114, hx114_0, hx114_1, hx114_2, hx114_3, hx114_4, hx114_5, hx114_6, hx114_7, hx114_8, hl114_8, hi114_8⟩ := at_T44 HR111_5.out x7_6 p114 q114
                                                obtain rfl : ad113 = ad114 := (by injection e114)
                                                replace hx114_0 := (HB.out.cell (World.block_lt_of_cell? w _ hx114_0)).trans hx114_0
                                                replace hx114_1 := (HB.out.cell (World.block_lt_of_cell? w _ hx114_1)).trans hx114_1
                                                replace hx114_2 := (HB.out.cell (World.block_lt_of_cell? w _ hx114_2)).trans hx114_2
                                                replace hx114_3 := (HB.out.cell (World.block_lt_of_cell? w _ hx114_3)).trans hx114_3
                                                replace hx114_4 := (HB.out.cell (World.block_lt_of_cell? w _ hx114_4)).trans hx114_4
                                                replace hx114_5 := (HB.out.cell (World.block_lt_of_cell? w _ hx114_5)).trans hx114_5
                                                replace hx114_6 := (HB.out.cell (World.block_lt_of_cell? w _ hx114_6)).trans hx114_6
                                                replace hx114_7 := (HB.out.cell (World.block_lt_of_cell? w _ hx114_7)).trans hx114_7
                                                replace hx114_8 := (HB.out.cell (World.block_lt_of_cell? w _ hx114_8)).trans hx114_8
                                                have HR114_8 := Aside0.mk hi114_8
                                                have HC114_8 := Aside0.mk hl114_8
                                                clear hi114_8 hl114_8
                                                replace p114 := eq_true p114
                                                replace q114 := eq_true q114
                                                have ea_ := Option.some.inj (hx113_8.symm.trans hx114_8)
                                                injection ea_ with ea_ en_ ec_
                                                subst ea_
                                                subst ec_
                                                clear en_
                                                go_wp2
                                                go_ret
                                                exact ⟨by first | rfl | (simp [errW_none, errW_some] <;> rfl) | (simp [*, errW_none, errW_some] <;> rfl), by repeat (first | (with_reducible first | exact HB.out | apply below_alloc | apply pw_below_drewN | apply below_drew1 | refine below_set ?_ GE108.out | refine below_set ?_ GE110.out | refine below_set ?_ GE112.out) | exact HB.out)⟩
                                              · rw [if_neg c57] at H
                                                have c57b0 : decide (300 < (((rd_T44 ((rd_T40 ((rd_T37 l0_0 x3_2).f6) x5_4).f5) x7_6).f5).size : Int)) = false := decide_eq_false c57
                                                have c57b1 : decide (300 < ((rd_T44 ((rd_T40 ((rd_T37 l0_0 x3_2).f6) x5_4).f5) x7_6).f5).size) = false := decide_eq_false (by omega)
                                                clear c57
                                                by_cases c61 : (((rd_T44 ((rd_T40 ((rd_T37 l0_0 x3_2).f6) x5_4).f5) x7_6).f6).size : Int) > 300
                                                · rw [if_pos c61] at H
                                                  have c61b0 : decide (300 < (((rd_T44 ((rd_T40 ((rd_T37 l0_0 x3_2).f6) x5_4).f5) x7_6).f6).size : Int)) = true := decide_eq_true c61
                                                  have c61b1 : decide (300 < ((rd_T44 ((rd_T40 ((rd_T37 l0_0 x3_2).f6) x5_4).f5) x7_6).f6).size) = true := decide_eq_true (by omega)
                                                  clear c61
                                                  obtain rfl := Option.some.inj H
                                                  simp only [Option.some.injEq, Prod.mk.injEq] at H
                                                  obtain ⟨rfl⟩ := H
                                                  have hnb62 := NB112_108.out
                                                  have hnc62 := NB108_112.out
                                                  have hnb63 := NB112_110.out
                                                  have hnc63 := NB110_112.out
                                                  have hcz64_0 : wr.cell? ⟨gb112, 0, none⟩ = some (.string ((rd_T40 ((rd_T37 l0_0 x3_2).f6) x5_4).f0)) := (blk_cell BK112.out 0).trans rfl
                                                  have hcz64_1 : wr.cell? ⟨gb112, 1, none⟩ = some (.string ((rd_T40 ((rd_T37 l0_0 x3_2).f6) x5_4).f1)) := (blk_cell BK112.out 1).trans rfl
                                                  have hcz64_2 : wr.cell? ⟨gb112, 2, none⟩ = some (.bool ((rd_T40 ((rd_T37 l0_0 x3_2).f6) x5_4).f2)) := (blk_cell BK112.out 2).trans rfl
                                                  have hcz64_3 : wr.cell? ⟨gb112, 3, none⟩ = some (.bool ((rd_T40 ((rd_T37 l0_0 x3_2).f6) x5_4).f3)) := (blk_cell BK112.out 3).trans rfl
                                                  have hcz64_4 : wr.cell? ⟨gb112, 4, none⟩ = some (.int .i64 ((rd_T40 ((rd_T37 l0_0 x3_2).f6) x5_4).f4)) := (blk_cell BK112.out 4).trans rfl
                                                  have hcz64_5 : wr.cell? ⟨gb112, 5, none⟩ = some (.slice A111_5 ((rd_T40 ((rd_T37 l0_0 x3_2).f6) x5_4).f5).length c111_5) := (blk_cell BK112.out 5).trans rfl
                                                  have hfz64_0 := blk_frozen BK112.out 0
                                                  have hfz64_1 := blk_frozen BK112.out 1
                                                  have hfz64_2 := blk_frozen BK112.out 2
                                                  have hfz64_3 := blk_frozen BK112.out 3
                                                  have hfz64_4 := blk_frozen BK112.out 4
                                                  have hfz64_5 := blk_frozen BK112.out 5
                                                  have p113 : 0 ≤ (x7_6 : Int) := of_decide_eq_true (by first | (with_reducible assumption) | assumption)
                                                  have q113 : x7_6 < (((rd_T40 ((rd_T37 l0_0 x3_2).f6) x5_4).f5).length : Int) := of_decide_eq_true (by first | (with_reducible assumption) | assumption)
                                                  obtain ⟨ad113, A113_8, c113_8, e113, hx113_0, hx113_1, hx113_2, hx113_3, hx113_4, hx113_5, hx113_6, hx113_7, hx113_8, hl113_8, hi113_8⟩ := at_T44 HR111_5.out x7_6 p113 q113
                                                  cases e113
                                                  replace hx113_0 := (HB.out.cell (World.block_lt_of_cell? w _ hx113_0)).trans hx113_0
                                                  replace hx113_1 := (HB.out.cell (World.block_lt_of_cell? w _ hx113_1)).trans hx113_1
                                                  replace hx113_2 := (HB.out.cell (World.block_lt_of_cell? w _ hx113_2)).trans hx113_2
                                                  replace hx113_3 := (HB.out.cell (World.block_lt_of_cell? w _ hx113_3)).trans hx113_3
                                                  replace hx113_4 := (HB.out.cell (World.block_lt_of_cell? w _ hx113_4)).trans hx113_4
                                                  replace hx113_5 := (HB.out.cell (World.block_lt_of_cell? w _ hx113_5)).trans hx113_5
                                                  replace hx113_6 := (HB.out.cell (World.block_lt_of_cell? w _ hx113_6)).trans hx113_6
                                                  replace hx113_7 := (HB.out.cell (World.block_lt_of_cell? w _ hx113_7)).trans hx113_7
                                                  replace hx113_8 := (HB.out.cell (World.block_lt_of_cell? w _ hx113_8)).trans hx113_8
                                                  have HR113_8 := Aside0.mk hi113_8
                                                  have HC113_8 := Aside0.mk hl113_8
                                                  clear hi113_8 hl113_8
                                                  replace p113 := eq_true p113
                                                  replace q113 := eq_true q113
                                                  have p114 : 0 ≤ (x7_6 : Int) := of_decide_eq_true (by first | (with_reducible assumption) | assumption)
                                                  have q114 : x7_6 < (((rd_T40 ((rd_T37 l0_0 x3_2).f6) x5_4).f5).length : Int) := of_decide_eq_true (by first | (with_reducible assumption) | assumption)
                                                  obtain ⟨ad114, A114_8, c114_8, e114, hx114_0, hx114_1, hx114_2, hx114_3, hx114_4, hx114_5, hx114_6, hx114_7, hx114_8, hl114_8, hi114_8⟩ := at_T44 HR111_5.out x7_6 p114 q114
                                                  obtain rfl : ad113 = ad114 := (by injection e114)
                                                  replace hx114_0 := (HB.out.cell (World.block_lt_of_cell? w _ hx114_0)).trans hx114_0
                                                  replace hx114_1 := (HB.out.cell (World.block_lt_of_cell? w _ hx114_1)).trans hx114_1
                                                  replace hx114_2 := (HB.out.cell (World.block_lt_of_cell? w _ hx114_2)).trans hx114_2
                                                  replace hx114_3 := (HB.out.cell (World.block_lt_of_cell? w _ hx114_3)).trans hx114_3
                                                  replace hx114_4 := (HB.out.cell (World.block_lt_of_cell? w _ hx114_4)).trans hx114_4
                                                  replace hx114_5 := (HB.out.cell (World.block_lt_of_cell? w _ hx114_5)).trans hx114_5
                                                  replace hx114_6 := (HB.out.cell (World.block_lt_of_cell? w _ hx114_6)).trans hx114_6
                                                  replace hx114_7 := (HB.out.cell (World.block_lt_of_cell? w _ hx114_7)).trans hx114_7
                                                  replace hx114_8 := (HB.out.cell (World.block_lt_of_cell? w _ hx114_8)).trans hx114_8
                                                  have HR114_8 := Aside0.mk hi114_8
                                                  have HC114_8 := Aside0.mk hl114_8
                                                  clear hi114_8 hl114_8
                                                  replace p114 := eq_true p114
                                                  replace q114 := eq_true q114
                                                  have ea_ := Option.some.inj (hx113_8.symm.trans hx114_8)
                                                  injection ea_ with ea_ en_ ec_
                                                  subst ea_
                                                  subst ec_
                                                  clear en_
                                                  have p115 : 0 ≤ (x7_6 : Int) := of_decide_eq_true (by first | (with_reducible assumption) | assumption)
                                                  have q115 : x7_6 < (((rd_T40 ((rd_T37 l0_0 x3_2).f6) x5_4).f5).length : Int) := of_decide_eq_true (by first | (with_reducible assumption) | assumption)
                                                  obtain ⟨ad115, A115_8, c115_8, e115, hx115_0, hx115_1, hx115_2, hx115_3, hx115_4, hx115_5, hx115_6, hx115_7, hx115_8, hl115_8, hi115_8⟩ := at_T44 HR111_5.out x7_6 p115 q115
                                                  obtain rfl : ad113 = ad115 := (by injection e115)
                                                  replace hx115_0 := (HB.out.cell (World.block_lt_of_cell? w _ hx115_0)).trans hx115_0
                                                  replace hx115_1 := (HB.out.cell (World.block_lt_of_cell? w _ hx115_1)).trans hx115_1
                                                  replace hx115_2 := (HB.out.cell (World.block_lt_of_cell? w _ hx115_2)).trans hx115_2
                                                  replace hx115_3 := (HB.out.cell (World.block_lt_of_cell? w _ hx115_3)).trans hx115_3
                                                  replace hx115_4 := (HB.out.cell (World.block_lt_of_cell? w _ hx115_4)).trans hx115_4
                                                  replace hx115_5 := (HB.out.cell (World.block_lt_of_cell? w _ hx115_5)).trans hx115_5
                                                  replace hx115_6 := (HB.out.cell (World.block_lt_of_cell? w _ hx115_6)).trans hx115_6
                                                  replace hx115_7 := (HB.out.cell (World.block_lt_of_cell? w _ hx115_7)).trans hx115_7
                                                  replace hx115_8 := (HB.out.cell (World.block_lt_of_cell? w _ hx115_8)).trans hx115_8
                                                  have HR115_8 := Aside0.mk hi115_8
                                                  have HC115_8 := Aside0.mk hl115_8
                                                  clear hi115_8 hl115_8
                                                  replace p115 := eq_true p115
                                                  replace q115 := eq_true q115
                                                  have ea_ := Option.some.inj (hx113_8.symm.trans hx115_8)
                                                  injection ea_ with ea_ en_ ec_
                                                  subst ea_
                                                  subst ec_
                                                  clear en_
                                                  go_wp2
                                                  go_ret
                                                  exact ⟨by first | rfl | (simp [errW_none, errW_some] <;> rfl) | (simp [*, errW_none, errW_some] <;> rfl), by repeat (first | (with_reducible first | exact HB.out | apply below_alloc | apply pw_below_drewN | apply below_drew1 | refine below_set ?_ GE108.out | refine below_set ?_ GE110.out | refine below_set ?_ GE112.out) | exact HB.out)⟩
                                                · rw [if_neg c61] at H
                                                  have c61b0 : decide (300 < (((rd_T44 ((rd_T40 ((rd_T37 l0_0 x3_2).f6) x5_4).f5) x7_6).f6).size : Int)) = false := decide_eq_false c61
                                                  have c61b1 : decide (300 < ((rd_T44 ((rd_T40 ((rd_T37 l0_0 x3_2).f6) x5_4).f5) x7_6).f6).size) = false := decide_eq_false (by omega)
                                                  clear c61
                                                  by_cases c65 : (((rd_T44 ((rd_T40 ((rd_T37 l0_0 x3_2).f6) x5_4).f5) x7_6).f7).size : Int) > 300
                                                  · rw [if_pos c65] at H
                                                    have c65b0 : decide (300 < (((rd_T44 ((rd_T40 ((rd_T37 l0_0 x3_2).f6) x5_4).f5) x7_6).f7).size : Int)) = true := decide_eq_true c65
                                                    have c65b1 : decide (300 < ((rd_T44 ((rd_T40 ((rd_T37 l0_0 x3_2).f6) x5_4).f5) x7_6).f7).size) = true := decide_eq_true (by omega)
                                                    clear c65
                                                    obtain rfl := Option.some.inj H
                                                    simp only [Option.some.injEq, Prod.mk.injEq] at H
                                                    obtain ⟨rfl⟩ := H
                                                    have hnb66 := NB112_108.out
                                                    have hnc66 := NB108_112.out
                                                    have hnb67 := NB112_110.out
                                                    have hnc67 := NB110_112.out
                                                    have hcz68_0 : wr.cell? ⟨gb112, 0, none⟩ = some (.string ((rd_T40 ((rd_T37 l0_0 x3_2).f6) x5_4).f0)) := (blk_cell BK112.out 0).trans rfl
                                                    have hcz68_1 : wr.cell? ⟨gb112, 1, none⟩ = some (.string ((rd_T40 ((rd_T37 l0_0 x3_2).f6) x5_4).f1)) := (blk_cell BK112.out 1).trans rfl
                                                    have hcz68_2 : wr.cell? ⟨gb112, 2, none⟩ = some (.bool ((rd_T40 ((rd_T37 l0_0 x3_2).f6) x5_4).f2)) := (blk_cell BK112.out 2).trans rfl
                                                    have hcz68_3 : wr.cell? ⟨gb112, 3, none⟩ = some (.bool ((rd_T40 ((rd_T37 l0_0 x3_2).f6) x5_4).f3)) := (blk_cell BK112.out 3).trans rfl
                                                    have hcz68_4 : wr.cell? ⟨gb112, 4, none⟩ = some (.int .i64 ((rd_T40 ((rd_T37 l0_0 x3_2).f6) x5_4).f4)) := (blk_cell BK112.out 4).trans rfl
                                                    have hcz68_5 : wr.cell? ⟨gb112, 5, none⟩ = some (.slice A111_5 ((rd_T40 ((rd_T37 l0_0 x3_2).f6) x5_4).f5).length c111_5) := (blk_cell BK112.out 5).trans rfl
                                                    have hfz68_0 := blk_frozen BK112.out 0
                                                    have hfz68_1 := blk_frozen BK112.out 1
                                                    have hfz68_2 := blk_frozen BK112.out 2
                                                    have hfz68_3 := blk_frozen BK112.out 3
                                                    have hfz68_4 := blk_frozen BK112.out 4
                                                    have hfz68_5 := blk_frozen BK112.out 5
                                                    have p113 : 0 ≤ (x7_6 : Int) := of_decide_eq_true (by first | (with_reducible assumption) | assumption)
                                                    have q113 : x7_6 < (((rd_T40 ((rd_T37 l0_0 x3_2).f6) x5_4).f5).length : Int) := of_decide_eq_true (by first | (with_reducible assumption) | assumption)
                                                    obtain ⟨ad113, A113_8, c113_8, e113, hx113_0, hx113_1, hx113_2, hx113_3, hx113_4, hx113_5, hx113_6, hx113_7, hx113_8, hl113_8, hi113_8⟩ := at_T44 HR111_5.out x7_6 p113 q113
                                                    cases e113
                                                    replace hx113_0 := (HB.out.cell (World.block_lt_of_cell? w _ hx113_0)).trans hx113_0
                                                    replace hx113_1 := (HB.out.cell (World.block_lt_of_cell? w _ hx113_1)).trans hx113_1
                                                    replace hx113_2 := (HB.out.cell (World.block_lt_of_cell? w _ hx113_2)).trans hx113_2
                                                    replace hx113_3 := (HB.out.cell (World.block_lt_of_cell? w _ hx113_3)).trans hx113_3
                                                    replace hx113_4 := (HB.out.cell (World.block_lt_of_cell? w _ hx113_4)).trans hx113_4
                                                    replace hx113_5 := (HB.out.cell (World.block_lt_of_cell? w _ hx113_5)).trans hx113_5
                                                    replace hx113_6 := (HB.out.cell (World.block_lt_of_cell? w _ hx113_6)).trans hx113_6
                                                    replace hx113_7 := (HB.out.cell (World.block_lt_of_cell? w _ hx113_7)).trans hx113_7
                                                    replace hx113_8 := (HB.out.cell (World.block_lt_of_cell? w _ hx113_8)).trans hx113_8
                                                    have HR113_8 := Aside0.mk hi113_8
                                                    have HC113_8 := Aside0.mk hl113_8
                                                    clear hi113_8 hl113_8
                                                    replace p113 := eq_true p113
                                                    replace q113 := eq_true q113
                                                    have p114 : 0 ≤ (x7_6 : Int) := of_decide_eq_true (by first | (with_reducible assumption) | assumption)
                                                    have q114 : x7_6 < (((rd_T40 ((rd_T37 l0_0 x3_2).f6) x5_4).f5).length : Int) := of_decide_eq_true (by first | (with_reducible assumption) | assumption)
                                                    obtain ⟨ad114, A114_8, c114_8, e114, hx114_0, hx114_1, hx114_2, hx114_3, hx114_4, hx114_5, hx114_6, hx114_7, hx114_8, hl114_8, hi114_8⟩ := at_T44 HR111_5.out x7_6 p114 q114
                                                    obtain rfl : ad113 = ad114 := (by injection e114)
                                                    replace hx114_0 := (HB.out.cell (World.block_lt_of_cell? w _ hx114_0)).trans hx114_0
                                                    replace hx114_1 := (HB.out.cell (World.block_lt_of_cell? w _ hx114_1)).trans hx114_1
                                                    replace hx114_2 := (HB.out.cell (World.block_lt_of_cell? w _ hx114_2)).trans hx114_2
                                                    replace hx114_3 := (HB.out.cell (World.block_lt_of_cell? w _ hx114_3)).trans hx114_3
                                                    replace hx114_4 := (HB.out.cell (World.block_lt_of_cell? w _ hx114_4)).trans hx114_4
                                                    replace hx114_5 := (HB.out.cell (World.block_lt_of_cell? w _ hx114_5)).trans hx114_5
                                                    replace hx114_6 := (HB.out.cell (World.block_lt_of_cell? w _ hx114_6)).trans hx114_6
                                                    replace hx114_7 := (HB.out.cell (World.block_lt_of_cell? w _ hx114_7)).trans hx114_7
                                                    replace hx114_8 := (HB.out.cell (World.block_lt_of_cell? w _ hx114_8)).trans hx114_8
                                                    have HR114_8 := Aside0.mk hi114_8
                                                    have HC114_8 := Aside0.mk hl114_8
                                                    clear hi114_8 hl114_8
                                                    replace p114 := eq_true p114
                                                    replace q114 := eq_true q114
                                                    have ea_ := Option.some.inj (hx113_8.symm.trans hx114_8)
                                                    injection ea_ with ea_ en_ ec_
                                                    subst ea_
                                                    subst ec_
                                                    clear en_
                                                    have p115 : 0 ≤ (x7_6 : Int) := of_decide_eq_true (by first | (with_reducible assumption) | assumption)
                                                    have q115 : x7_6 < (((rd_T40 ((rd_T37 l0_0 x3_2).f6) x5_4).f5).length : Int) := of_decide_eq_true (by first | (with_reducible assumption) | assumption)
                                                    obtain ⟨ad115, A115_8, c115_8, e115, hx115_0, hx115_1, hx115_2, hx115_3, hx115_4, hx115_5, hx115_6, hx115_7, hx115_8, hl115_8, hi115_8⟩ := at_T44 HR111_5.out x7_6 p115 q115
                                                    obtain rfl : ad113 = ad115 := (by injection e115)
                                                    replace hx115_0 := (HB.out.cell (World.block_lt_of_cell? w _ hx115_0)).trans hx115_0
                                                    replace hx115_1 := (HB.out.cell (World.block_lt_of_cell? w _ hx115_1)).trans hx115_1
                                                    replace hx115_2 := (HB.out.cell (World.block_lt_of_cell? w _ hx115_2)).trans hx115_2
                                                    replace hx115_3 := (HB.out.cell (World.block_lt_of_cell? w _ hx115_3)).trans hx115_3
                                                    replace hx115_4 := (HB.out.cell (World.block_lt_of_cell? w _ hx115_4)).trans hx115_4
                                                    replace hx115_5 := (HB.out.cell (World.block_lt_of_cell? w _ hx115_5)).trans hx115_5
                                                    replace hx115_6 := (HB.out.cell (World.block_lt_of_cell? w _ hx115_6)).trans hx115_6
                                                    replace hx115_7 := (HB.out.cell (World.block_lt_of_cell? w _ hx115_7)).trans hx115_7
                                                    replace hx115_8 := (HB.out.cell (World.block_lt_of_cell? w _ hx115_8)).trans hx115_8
                                                    have HR115_8 := Aside0.mk hi115_8
                                                    have HC115_8 := Aside0.mk hl115_8
                                                    clear hi115_8 hl115_8
                                                    replace p115 := eq_true p115
                                                    replace q115 := eq_true q115
                                                    have ea_ := Option.some.inj (hx113_8.symm.trans hx115_8)
                                                    injection ea_ with ea_ en_ ec_
                                                    subst ea_
                                                    subst ec_
                                                    clear en_
                                                    have p116 : 0 ≤ (x7_6 : Int) := of_decide_eq_true (by first | (with_reducible assumption) | assumption)
                                                    have q116 : x7_6 < (((rd_T40 ((rd_T37 l0_0 x3_2).f6) x5_4).f5).length : Int) := of_decide_eq_true (by first | (with_reducible assumption) | assumption)
                                                    obtain ⟨ad116, A116_8, c116_8, e116, hx116_0, hx116_1, hx116_2, hx116_3, hx116_4, hx116_5, hx116_6, hx116_7, hx116_8, hl116_8, hi116_8⟩ := at_T44 HR111_5.out x7_6 p116 q116
                                                    obtain rfl : ad113 = ad116 := (by injection e116)
                                                    replace hx116_0 := (HB.out.cell (World.block_lt_of_cell? w _ hx116_0)).trans hx116_0
                                                    replace hx116_1 := (HB.out.cell (World.block_lt_of_cell? w _ hx116_1)).trans hx116_1
                                                    replace hx116_2 := (HB.out.cell (World.block_lt_of_cell? w _ hx116_2)).trans hx116_2
                                                    replace hx116_3 := (HB.out.cell (World.block_lt_of_cell? w _ hx116_3)).trans hx116_3
                                                    replace hx116_4 := (HB.out.cell (World.block_lt_of_cell? w _ hx116_4)).trans hx116_4
                                                    replace hx116_5 := (HB.out.cell (World.block_lt_of_cell? w _ hx116_5)).trans hx116_5
                                                    replace hx116_6 := (HB.out.cell (World.block_lt_of_cell? w _ hx116_6)).trans hx116_6
                                                    replace hx116_7 := (HB.out.cell (World.block_lt_of_cell? w _ hx116_7)).trans hx116_7
                                                    replace hx116_8 := (HB.out.cell (World.block_lt_of_cell? w _ hx116_8)).trans hx116_8
                                                    have HR116_8 := Aside0.mk hi116_8
                                                    have HC116_8 := Aside0.mk hl116_8
                                                    clear hi116_8 hl116_8
                                                    replace p116 := eq_true p116
                                                    replace q116 := eq_true q116
                                                    have ea_ := Option.some.inj (hx113_8.symm.trans hx116_8)
                                                    injection ea_ with ea_ en_ ec_
                                                    subst ea_
                                                    subst ec_
                                                    clear en_
                                                    go_wp2
                                                    go_ret
                                                    exact ⟨by first | rfl | (simp [errW_none, errW_some] <;> rfl) | (simp [*, errW_none, errW_some] <;> rfl), by repeat (first | (with_reducible first | exact HB.out | apply below_alloc | apply pw_below_drewN | apply below_drew1 | refine below_set ?_ GE108.out | refine below_set ?_ GE110.out | refine below_set ?_ GE112.out) | exact HB.out)⟩
                                                  · rw [if_neg c65] at H
                                                    have c65b0 : decide (300 < (((rd_T44 ((rd_T40 ((rd_T37 l0_0 x3_2).f6) x5_4).f5) x7_6).f7).size : Int)) = false := decide_eq_false c65
                                                    have c65b1 : decide (300 < ((rd_T44 ((rd_T40 ((rd_T37 l0_0 x3_2).f6) x5_4).f5) x7_6).f7).size) = false := decide_eq_false (by omega)
                                                    clear c65
                                                    have H' := Aside0.mk H
                                                    clear H
                                                    have hnb69 := NB112_108.out
                                                    have hnc69 := NB108_112.out
                                                    have hnb70 := NB112_110.out
                                                    have hnc70 := NB110_112.out
                                                    have hcz71_0 : wr.cell? ⟨gb112, 0, none⟩ = some (.string ((rd_T40 ((rd_T37 l0_0 x3_2).f6) x5_4).f0)) := (blk_cell BK112.out 0).trans rfl
                                                    have hcz71_1 : wr.cell? ⟨gb112, 1, none⟩ = some (.string ((rd_T40 ((rd_T37 l0_0 x3_2).f6) x5_4).f1)) := (blk_cell BK112.out 1).trans rfl
                                                    have hcz71_2 : wr.cell? ⟨gb112, 2, none⟩ = some (.bool ((rd_T40 ((rd_T37 l0_0 x3_2).f6) x5_4).f2)) := (blk_cell BK112.out 2).trans rfl
                                                    have hcz71_3 : wr.cell? ⟨gb112, 3, none⟩ = some (.bool ((rd_T40 ((rd_T37 l0_0 x3_2).f6) x5_4).f3)) := (blk_cell BK112.out 3).trans rfl
                                                    have hcz71_4 : wr.cell? ⟨gb112, 4, none⟩ = some (.int .i64 ((rd_T40 ((rd_T37 l0_0 x3_2).f6) x5_4).f4)) := (blk_cell BK112.out 4).trans rfl
                                                    have hcz71_5 : wr.cell? ⟨gb112, 5, none⟩ = some (.slice A111_5 ((rd_T40 ((rd_T37 l0_0 x3_2).f6) x5_4).f5).length c111_5) := (blk_cell BK112.out 5).trans rfl
                                                    have hfz71_0 := blk_frozen BK112.out 0
                                                    have hfz71_1 := blk_frozen BK112.out 1
                                                    have hfz71_2 := blk_frozen BK112.out 2
                                                    have hfz71_3 := blk_frozen BK112.out 3
                                                    have hfz71_4 := blk_frozen BK112.out 4
                                                    have hfz71_5 := blk_frozen BK112.out 5
                                                    have p113 : 0 ≤ (x7_6 : Int) := of_decide_eq_true (by first | (with_reducible assumption) | assumption)
                                                    have q113 : x7_6 < (((rd_T40 ((rd_T37 l0_0 x3_2).f6) x5_4).f5).length : Int) := of_decide_eq_true (by first | (with_reducible assumption) | assumption)
                                                    obtain ⟨ad113, A113_8, c113_8, e113, hx113_0, hx113_1, hx113_2, hx113_3, hx113_4, hx113_5, hx113_6, hx113_7, hx113_8, hl113_8, hi113_8⟩ := at_T44 HR111_5.out x7_6 p113 q113
                                                    cases e113
                                                    replace hx113_0 := (HB.out.cell (World.block_lt_of_cell? w _ hx113_0)).trans hx113_0
                                                    replace hx113_1 := (HB.out.cell (World.block_lt_of_cell? w _ hx113_1)).trans hx113_1
                                                    replace hx113_2 := (HB.out.cell (World.block_lt_of_cell? w _ hx113_2)).trans hx113_2
                                                    replace hx113_3 := (HB.out.cell (World.block_lt_of_cell? w _ hx113_3)).trans hx113_3
                                                    replace hx113_4 := (HB.out.cell (World.block_lt_of_cell? w _ hx113_4)).trans hx113_4
                                                    replace hx113_5 := (HB.out.cell (World.block_lt_of_cell? w _ hx113_5)).trans hx113_5
                                                    replace hx113_6 := (HB.out.cell (World.block_lt_of_cell? w _ hx113_6)).trans hx113_6
                                                    replace hx113_7 := (HB.out.cell (World.block_lt_of_cell? w _ hx113_7)).trans hx113_7
                                                    replace hx113_8 := (HB.out.cell (World.block_lt_of_cell? w _ hx113_8)).trans hx113_8
                                                    have HR113_8 := Aside0.mk hi113_8
                                                    have HC113_8 := Aside0.mk hl113_8
                                                    clear hi113_8 hl113_8
                                                    replace p113 := eq_true p113
                                                    replace q113 := eq_true q113
                                                    have p114 : 0 ≤ (x7_6 : Int) := of_decide_eq_true (by first | (with_reducible assumption) | assumption)
                                                    have q114 : x7_6 < (((rd_T40 ((rd_T37 l0_0 x3_2).f6) x5_4).f5).length : Int) := of_decide_eq_true (by first | (with_reducible assumption) | assumption)
                                                    obtain ⟨ad114, A114_8, c114_8, e114, hx114_0, hx114_1, hx114_2, hx114_3, hx114_4, hx114_5, hx114_6, hx114_7, hx114_8, hl114_8, hi114_8⟩ := at_T44 HR111_5.out x7_6 p114 q114
                                                    obtain rfl : ad113 = ad114 := (by injection e114)
                                                    replace hx114_0 := (HB.out.cell (World.block_lt_of_cell? w _ hx114_0)).trans hx114_0
                                                    replace hx114_1 := (HB.out.cell (World.block_lt_of_cell? w _ hx114_1)).trans hx114_1
                                                    replace hx114_2 := (HB.out.cell (World.block_lt_of_cell? w _ hx114_2)).trans hx114_2
                                                    replace hx114_3 := (HB.out.cell (World.block_lt_of_cell? w _ hx114_3)).trans hx114_3
                                                    replace hx114_4 := (HB.out.cell (World.block_lt_of_cell? w _ hx114_4)).trans hx114_4
                                                    replace hx114_5 := (HB.out.cell (World.block_lt_of_cell? w _ hx114_5)).trans hx114_5
                                                    replace hx114_6 := (HB.out.cell (World.block_lt_of_cell? w _ hx114_6)).trans hx114_6
                                                    replace hx114_7 := (HB.out.cell (World.block_lt_of_cell? w _ hx114_7)).trans hx114_7
                                                    replace hx114_8 := (HB.out.cell (World.block_lt_of_cell? w _ hx114_8)).trans hx114_8
                                                    have HR114_8 := Aside0.mk hi114_8
                                                    have HC114_8 := Aside0.mk hl114_8
                                                    clear hi114_8 hl114_8
                                                    replace p114 := eq_true p114
                                                    replace q114 := eq_true q114
                                                    have ea_ := Option.some.inj (hx113_8.symm.trans hx114_8)
                                                    injection ea_ with ea_ en_ ec_
                                                    subst ea_
                                                    subst ec_
                                                    clear en_
                                                    have p115 : 0 ≤ (x7_6 : Int) := of_decide_eq_true (by first | (with_reducible assumption) | assumption)
                                                    have q115 : x7_6 < (((rd_T40 ((rd_T37 l0_0 x3_2).f6) x5_4).f5).length : Int) := of_decide_eq_true (by first | (with_reducible assumption) | assumption)
                                                    obtain ⟨ad115, A115_8, c115_8, e115, hx115_0, hx115_1, hx115_2, hx115_3, hx115_4, hx115_5, hx115_6, hx115_7, hx115_8, hl115_8, hi115_8⟩ := at_T44 HR111_5.out x7_6 p115 q115
                                                    obtain rfl : ad113 = ad115 := (by injection e115)
                                                    replace hx115_0 := (HB.out.cell (World.block_lt_of_cell? w _ hx115_0)).trans hx115_0
                                                    replace hx115_1 := (HB.out.cell (World.block_lt_of_cell? w _ hx115_1)).trans hx115_1
                                                    replace hx115_2 := (HB.out.cell (World.block_lt_of_cell? w _ hx115_2)).trans hx115_2
                                                    replace hx115_3 := (HB.out.cell (World.block_lt_of_cell? w _ hx115_3)).trans hx115_3
                                                    replace hx115_4 := (HB.out.cell (World.block_lt_of_cell? w _ hx115_4)).trans hx115_4
                                                    replace hx115_5 := (HB.out.cell (World.block_lt_of_cell? w _ hx115_5)).trans hx115_5
                                                    replace hx115_6 := (HB.out.cell (World.block_lt_of_cell? w _ hx115_6)).trans hx115_6
                                                    replace hx115_7 := (HB.out.cell (World.block_lt_of_cell? w _ hx115_7)).trans hx115_7
                                                    replace hx115_8 := (HB.out.cell (World.block_lt_of_cell? w _ hx115_8)).trans hx115_8
                                                    have HR115_8 := Aside0.mk hi115_8
                                                    have HC115_8 := Aside0.mk hl115_8
                                                    clear hi115_8 hl115_8
                                                    replace p115 := eq_true p115
                                                    replace q115 := eq_true q115
                                                    have ea_ := Option.some.inj (hx113_8.symm.trans hx115_8)
                                                    injection ea_ with ea_ en_ ec_
                                                    subst ea_
                                                    subst ec_
                                                    clear en_
                                                    have p116 : 0 ≤ (x7_6 : Int) := of_decide_eq_true (by first | (with_reducible assumption) | assumption)
                                                    have q116 : x7_6 < (((rd_T40 ((rd_T37 l0_0 x3_2).f6) x5_4).f5).length : Int) := of_decide_eq_true (by first | (with_reducible assumption) | assumption)
                                                    obtain ⟨ad116, A116_8, c116_8, e116, hx116_0, hx116_1, hx116_2, hx116_3, hx116_4, hx116_5, hx116_6, hx116_7, hx116_8, hl116_8, hi116_8⟩ := at_T44 HR111_5.out x7_6 p116 q116
                                                    obtain rfl : ad113 = ad116 := (by injection e116)
                                                    replace hx116_0 := (HB.out.cell (World.block_lt_of_cell? w _ hx116_0)).trans hx116_0
                                                    replace hx116_1 := (HB.out.cell (World.block_lt_of_cell? w _ hx116_1)).trans hx116_1
                                                    replace hx116_2 := (HB.out.cell (World.block_lt_of_cell? w _ hx116_2)).trans hx116_2
                                                    replace hx116_3 := (HB.out.cell (World.block_lt_of_cell? w _ hx116_3)).trans hx116_3
                                                    replace hx116_4 := (HB.out.cell (World.block_lt_of_cell? w _ hx116_4)).trans hx116_4
                                                    replace hx116_5 := (HB.out.cell (World.block_lt_of_cell? w _ hx116_5)).trans hx116_5
                                                    replace hx116_6 := (HB.out.cell (World.block_lt_of_cell? w _ hx116_6)).trans hx116_6
                                                    replace hx116_7 := (HB.out.cell (World.block_lt_of_cell? w _ hx116_7)).trans hx116_7
                                                    replace hx116_8 := (HB.out.cell (World.block_lt_of_cell? w _ hx116_8)).trans hx116_8
                                                    have HR116_8 := Aside0.mk hi116_8
                                                    have HC116_8 := Aside0.mk hl116_8
                                                    clear hi116_8 hl116_8
                                                    replace p116 := eq_true p116
                                                    replace q116 := eq_true q116
                                                    have ea_ := Option.some.inj (hx113_8.symm.trans hx116_8)
                                                    injection ea_ with ea_ en_ ec_
                                                    subst ea_
                                                    subst ec_
                                                    clear en_
                                                    go_wp2
                                                    go_roundg k6
                                                    case measure => have := HJ1.out; have := HK2.out; have := HJ9.out; have := HK4.out; have := HJ31.out; have := HK6.out; omega
                                                    case rel => exact ⟨(wrap64 (x7_6 + 1)), (by first | rfl | (simp; done) | (simp [*]; done)), H', ⟨by have := HJ1.out; have := HK2.out; have := HJ9.out; have := HK4.out; have := HJ31.out; have := HK6.out; omega⟩, ⟨by (with_reducible repeat (first | refine blk_drewN ?_ _ | refine blk_drew ?_ | refine blk_alloc ?_ _)); exact BK108.out⟩, ⟨by (with_reducible repeat (first | refine blk_drewN ?_ _ | refine blk_drew ?_ | refine blk_alloc ?_ _)); exact BK110.out⟩, ⟨by (with_reducible repeat (first | refine blk_drewN ?_ _ | refine blk_drew ?_ | refine blk_alloc ?_ _)); exact BK112.out⟩, ⟨by repeat (first | (with_reducible first | exact HB.out | apply below_alloc | apply pw_below_drewN | apply below_drew1 | refine below_set ?_ GE108.out | refine below_set ?_ GE110.out | refine below_set ?_ GE112.out) | exact HB.out)⟩⟩
                                          · rw [if_neg c52] at H
                                            exact absurd H (by simp)
                                        · rw [if_neg c51] at H
                                          have c51b0 : decide (x7_6 < (((rd_T40 ((rd_T37 l0_0 x3_2).f6) x5_4).f5).length : Int)) = false := decide_eq_false c51
                                          clear c51
                                          have H' := Aside0.mk H
                                          clear H
                                          have hnb72 := NB112_108.out
                                          have hnc72 := NB108_112.out
                                          have hnb73 := NB112_110.out
                                          have hnc73 := NB110_112.out
                                          have hcz74_0 : wr.cell? ⟨gb112, 0, none⟩ = some (.string ((rd_T40 ((rd_T37 l0_0 x3_2).f6) x5_4).f0)) := (blk_cell BK112.out 0).trans rfl
                                          have hcz74_1 : wr.cell? ⟨gb112, 1, none⟩ = some (.string ((rd_T40 ((rd_T37 l0_0 x3_2).f6) x5_4).f1)) := (blk_cell BK112.out 1).trans rfl
                                          have hcz74_2 : wr.cell? ⟨gb112, 2, none⟩ = some (.bool ((rd_T40 ((rd_T37 l0_0 x3_2).f6) x5_4).f2)) := (blk_cell BK112.out 2).trans rfl
                                          have hcz74_3 : wr.cell? ⟨gb112, 3, none⟩ = some (.bool ((rd_T40 ((rd_T37 l0_0 x3_2).f6) x5_4).f3)) := (blk_cell BK112.out 3).trans rfl
                                          have hcz74_4 : wr.cell? ⟨gb112, 4, none⟩ = some (.int .i64 ((rd_T40 ((rd_T37 l0_0 x3_2).f6) x5_4).f4)) := (blk_cell BK112.out 4).trans rfl
                                          have hcz74_5 : wr.cell? ⟨gb112, 5, none⟩ = some (.slice A111_5 ((rd_T40 ((rd_T37 l0_0 x3_2).f6) x5_4).f5).length c111_5) := (blk_cell BK112.out 5).trans rfl
                                          have hfz74_0 := blk_frozen BK112.out 0
                                          have hfz74_1 := blk_frozen BK112.out 1
                                          have hfz74_2 := blk_frozen BK112.out 2
                                          have hfz74_3 := blk_frozen BK112.out 3
                                          have hfz74_4 := blk_frozen BK112.out 4
                                          have hfz74_5 := blk_frozen BK112.out 5
                                          go_wp2
                                          go_roundg k6
                                          case measure => have := HJ1.out; have := HK2.out; have := HJ9.out; have := HK4.out; have := HJ31.out; have := HK6.out; omega
                                          case rel => exact ⟨(wrap64 (x5_4 + 1)), (by first | rfl | (simp; done) | (simp [*]; done)), H', ⟨by have := HJ1.out; have := HK2.out; have := HJ9.out; have := HK4.out; have := HJ31.out; have := HK6.out; omega⟩, ⟨by (with_reducible repeat (first | refine blk_drewN ?_ _ | refine blk_drew ?_ | refine blk_alloc ?_ _)); exact BK108.out⟩, ⟨by (with_reducible repeat (first | refine blk_drewN ?_ _ | refine blk_drew ?_ | refine blk_alloc ?_ _)); exact BK110.out⟩, ⟨by repeat (first | (with_reducible first | exact HB.out | apply below_alloc | apply pw_below_drewN | apply below_drew1 | refine below_set ?_ GE108.out | refine below_set ?_ GE110.out | refine below_set ?_ GE112.out) | exact HB.out)⟩⟩
                            · rw [if_neg c31] at H
                              exact absurd H (by simp)
                          · rw [if_neg c30] at H
                            have c30b0 : decide (x5_4 < (((rd_T37 l0_0 x3_2).f6).length : Int)) = false := decide_eq_false c30
                            clear c30
                            have H' := Aside0.mk H
                            clear H
                            have hnb75 := NB110_108.out
                            have hnc75 := NB108_110.out
                            have hcz76_0 : wr.cell? ⟨gb110, 0, none⟩ = some (.string ((rd_T37 l0_0 x3_2).f0)) := (blk_cell BK110.out 0).trans rfl
                            have hcz76_1 : wr.cell? ⟨gb110, 1, none⟩ = some (.string ((rd_T37 l0_0 x3_2).f1)) := (blk_cell BK110.out 1).trans rfl
                            have hcz76_2 : wr.cell? ⟨gb110, 2, none⟩ = some (.bool ((rd_T37 l0_0 x3_2).f2)) := (blk_cell BK110.out 2).trans rfl
                            have hcz76_3 : wr.cell? ⟨gb110, 3, none⟩ = some (.bool ((rd_T37 l0_0 x3_2).f3)) := (blk_cell BK110.out 3).trans rfl
                            have hcz76_4 : wr.cell? ⟨gb110, 4, none⟩ = some (.slice A109_4 ((rd_T37 l0_0 x3_2).f4).length c109_4) := (blk_cell BK110.out 4).trans rfl
                            have hcz76_5 : wr.cell? ⟨gb110, 5, none⟩ = some (.slice A109_5 ((rd_T37 l0_0 x3_2).f5).length c109_5) := (blk_cell BK110.out 5).trans rfl
                            have hcz76_6 : wr.cell? ⟨gb110, 6, none⟩ = some (.slice A109_6 ((rd_T37 l0_0 x3_2).f6).length c109_6) := (blk_cell BK110.out 6).trans rfl
                            have hfz76_0 := blk_frozen BK110.out 0
                            have hfz76_1 := blk_frozen BK110.out 1
                            have hfz76_2 := blk_frozen BK110.out 2
                            have hfz76_3 := blk_frozen BK110.out 3
                            have hfz76_4 := blk_frozen BK110.out 4
                            have hfz76_5 := blk_frozen BK110.out 5
                            have hfz76_6 := blk_frozen BK110.out 6
                            go_wp2
                            go_roundg k4
                            case measure => have := HJ1.out; have := HK2.out; have := HJ9.out; have := HK4.out; omega
                            case rel => exact ⟨(wrap64 (x3_2 + 1)), (by first | rfl | (simp; done) | (simp [*]; done)), H', ⟨by have := HJ1.out; have := HK2.out; have := HJ9.out; have := HK4.out; omega⟩, ⟨by (with_reducible repeat (first | refine blk_drewN ?_ _ | refine blk_drew ?_ | refine blk_alloc ?_ _)); exact BK108.out⟩, ⟨by repeat (first | (with_reducible first | exact HB.out | apply below_alloc | apply pw_below_drewN | apply below_drew1 | refine below_set ?_ GE108.out | refine below_set ?_ GE110.out) | exact HB.out)⟩⟩
              · rw [if_neg c9] at H
                exact absurd H (by simp)
            · rw [if_neg c8] at H
              have c8b0 : decide (x3_2 < (l0_0.length : Int)) = false := decide_eq_false c8
              clear c8
              obtain rfl := Option.some.inj H
              simp only [Option.some.injEq, Prod.mk.injEq] at H
              obtain ⟨rfl⟩ := H
              have hcz77_0 : wr.cell? ⟨gb108, 0, none⟩ = some (.slice A0_0 l0_0.length c0_0) := (blk_cell BK108.out 0).trans rfl
              have hcz77_1 : wr.cell? ⟨gb108, 1, none⟩ = some (.slice A0_1 l0_1.length c0_1) := (blk_cell BK108.out 1).trans rfl
              have hcz77_2 : wr.cell? ⟨gb108, 2, none⟩ = some (.string a0_2) := (blk_cell BK108.out 2).trans rfl
              have hcz77_3 : wr.cell? ⟨gb108, 3, none⟩ = some (.string a0_3) := (blk_cell BK108.out 3).trans rfl
              have hcz77_4 : wr.cell? ⟨gb108, 4, none⟩ = some (.string a0_4) := (blk_cell BK108.out 4).trans rfl
              have hfz77_0 := blk_frozen BK108.out 0
              have hfz77_1 := blk_frozen BK108.out 1
              have hfz77_2 := blk_frozen BK108.out 2
              have hfz77_3 := blk_frozen BK108.out 3
              have hfz77_4 := blk_frozen BK108.out 4
              go_wp2
              go_ret
              exact ⟨by first | rfl | (simp [errW_none, errW_some] <;> rfl) | (simp [*, errW_none, errW_some] <;> rfl), by repeat (first | (with_reducible first | exact HB.out | apply below_alloc | apply pw_below_drewN | apply below_drew1 | refine below_set ?_ GE108.out) | exact HB.out)⟩

end Go.Proofs.YtmamaijiphdggaaDoor.PTop
