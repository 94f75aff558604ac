/- Part of a proof of this seat's statements: plain functions, contracts and rows, written by a program (the kit's printer, some functions given by hand) out of the translation; no conditions of its own. -/
import Derived.Test.YtmamaijiphdggaaDoorPOpx0
import Derived.Test.YtmamaijiphdggaaDoorPOpx4
import Derived.Test.YtmamaijiphdggaaDoorPOpx5
import Derived.Test.YtmamaijiphdggaaDoorPOpx7
import Derived.Test.YtmamaijiphdggaaDoorPOpx8
namespace Go.Proofs.YtmamaijiphdggaaDoor.POp
open Go.RowKit Go.Proofs.YtmamaijiphdggaaDoor.Given Go.Proofs.YtmamaijiphdggaaDoorW.PrintWords Go.Proofs.YtmamaijiphdggaaDoorW.PrintLast Go.Proofs.YtmamaijiphdggaaDoorW.PrintMore
attribute [local go_sem] max2_int min2_int max_two min_two max_three min_three max_four min_four   -- for this text's walks alone
set_option linter.unusedVariables false
set_option linter.unusedSimpArgs false

/-! ### secateurref07_Fits: function 24 -/
mutual
def secateurref07_Fits.j0 : Nat → Int → Int → ByteArray → Bool → Int → Int → Int → Int → Int → ByteArray → ByteArray → ByteArray → List Int → Option (Int)
  | 0, _, _, _, _, _, _, _, _, _, _, _, _, _ => none
  | k + 1, x1, x2, x7, x36, x217000, x217001, x217002, x217003, x217004, x217005, x217006, x217007, x217008 => if x36 = true then (some 1) else ((secateurref07_IsCall.f x217000).bind fun t220 => (if t220 = true then ((secateurref06_Split.f k x217007).bind fun bt221 => (if x217000 = 19 then (if (x217008.length : Int) = (bt221.1.length : Int) then (secateurref07_Fits.j1 k x1 x2 x7 (bt221.2.1 == 1) x217000 x217001 x217002 x217003 x217004 x217005 x217006 x217007 x217008) else (some 9)) else (if (x217008.length : Int) = (wrap64 ((bt221.1.length : Int) + 1)) then (secateurref07_Fits.j1 k x1 x2 x7 (bt221.2.1 == 1) x217000 x217001 x217002 x217003 x217004 x217005 x217006 x217007 x217008) else (some 9)))) else (secateurref07_Fits.j1 k x1 x2 x7 false x217000 x217001 x217002 x217003 x217004 x217005 x217006 x217007 x217008)))
def secateurref07_Fits.j1 : Nat → Int → Int → ByteArray → Bool → Int → Int → Int → Int → Int → ByteArray → ByteArray → ByteArray → List Int → Option (Int)
  | 0, _, _, _, _, _, _, _, _, _, _, _, _, _ => none
  | k + 1, x1, x2, x7, x8, x217000, x217001, x217002, x217003, x217004, x217005, x217006, x217007, x217008 => (secateurref07_Has.f x7 97).bind fun t228 => (if t228 = true then ((secateurref07_within.f x217001 x1).bind fun t229 => (if t229 = true then ((secateurref07_Has.f x7 98).bind fun t230 => (if t230 = true then ((secateurref07_within.f x217002 x1).bind fun t231 => (if t231 = true then ((secateurref07_Has.f x7 99).bind fun t232 => (if t232 = true then ((secateurref07_within.f x217003 x1).bind fun t233 => (if t233 = true then (if x8 = true then (secateurref07_Fits.j2 k x1 x2 x7 (x217001 != 0) x217000 x217001 x217002 x217003 x217004 x217005 x217006 x217007 x217008) else (secateurref07_Fits.j2 k x1 x2 x7 false x217000 x217001 x217002 x217003 x217004 x217005 x217006 x217007 x217008)) else (secateurref07_Fits.j2 k x1 x2 x7 true x217000 x217001 x217002 x217003 x217004 x217005 x217006 x217007 x217008))) else (if x8 = true then (secateurref07_Fits.j2 k x1 x2 x7 (x217001 != 0) x217000 x217001 x217002 x217003 x217004 x217005 x217006 x217007 x217008) else (secateurref07_Fits.j2 k x1 x2 x7 false x217000 x217001 x217002 x217003 x217004 x217005 x217006 x217007 x217008)))) else (secateurref07_Fits.j2 k x1 x2 x7 true x217000 x217001 x217002 x217003 x217004 x217005 x217006 x217007 x217008))) else ((secateurref07_Has.f x7 99).bind fun t234 => (if t234 = true then ((secateurref07_within.f x217003 x1).bind fun t235 => (if t235 = true then (if x8 = true then (secateurref07_Fits.j2 k x1 x2 x7 (x217001 != 0) x217000 x217001 x217002 x217003 x217004 x217005 x217006 x217007 x217008) else (secateurref07_Fits.j2 k x1 x2 x7 false x217000 x217001 x217002 x217003 x217004 x217005 x217006 x217007 x217008)) else (secateurref07_Fits.j2 k x1 x2 x7 true x217000 x217001 x217002 x217003 x217004 x217005 x217006 x217007 x217008))) else (if x8 = true then (secateurref07_Fits.j2 k x1 x2 x7 (x217001 != 0) x217000 x217001 x217002 x217003 x217004 x217005 x217006 x217007 x217008) else (secateurref07_Fits.j2 k x1 x2 x7 false x217000 x217001 x217002 x217003 x217004 x217005 x217006 x217007 x217008)))))) else (secateurref07_Fits.j2 k x1 x2 x7 true x217000 x217001 x217002 x217003 x217004 x217005 x217006 x217007 x217008))) else ((secateurref07_Has.f x7 98).bind fun t236 => (if t236 = true then ((secateurref07_within.f x217002 x1).bind fun t237 => (if t237 = true then ((secateurref07_Has.f x7 99).bind fun t238 => (if t238 = true then ((secateurref07_within.f x217003 x1).bind fun t239 => (if t239 = true then (if x8 = true then (secateurref07_Fits.j2 k x1 x2 x7 (x217001 != 0) x217000 x217001 x217002 x217003 x217004 x217005 x217006 x217007 x217008) else (secateurref07_Fits.j2 k x1 x2 x7 false x217000 x217001 x217002 x217003 x217004 x217005 x217006 x217007 x217008)) else (secateurref07_Fits.j2 k x1 x2 x7 true x217000 x217001 x217002 x217003 x217004 x217005 x217006 x217007 x217008))) else (if x8 = true then (secateurref07_Fits.j2 k x1 x2 x7 (x217001 != 0) x217000 x217001 x217002 x217003 x217004 x217005 x217006 x217007 x217008) else (secateurref07_Fits.j2 k x1 x2 x7 false x217000 x217001 x217002 x217003 x217004 x217005 x217006 x217007 x217008)))) else (secateurref07_Fits.j2 k x1 x2 x7 true x217000 x217001 x217002 x217003 x217004 x217005 x217006 x217007 x217008))) else ((secateurref07_Has.f x7 99).bind fun t240 => (if t240 = true then ((secateurref07_within.f x217003 x1).bind fun t241 => (if t241 = true then (if x8 = true then (secateurref07_Fits.j2 k x1 x2 x7 (x217001 != 0) x217000 x217001 x217002 x217003 x217004 x217005 x217006 x217007 x217008) else (secateurref07_Fits.j2 k x1 x2 x7 false x217000 x217001 x217002 x217003 x217004 x217005 x217006 x217007 x217008)) else (secateurref07_Fits.j2 k x1 x2 x7 true x217000 x217001 x217002 x217003 x217004 x217005 x217006 x217007 x217008))) else (if x8 = true then (secateurref07_Fits.j2 k x1 x2 x7 (x217001 != 0) x217000 x217001 x217002 x217003 x217004 x217005 x217006 x217007 x217008) else (secateurref07_Fits.j2 k x1 x2 x7 false x217000 x217001 x217002 x217003 x217004 x217005 x217006 x217007 x217008)))))))
def secateurref07_Fits.j2 : Nat → Int → Int → ByteArray → Bool → Int → Int → Int → Int → Int → ByteArray → ByteArray → ByteArray → List Int → Option (Int)
  | 0, _, _, _, _, _, _, _, _, _, _, _, _, _ => none
  | k + 1, x1, x2, x7, x100, x217000, x217001, x217002, x217003, x217004, x217005, x217006, x217007, x217008 => if x100 = true then (some 12) else (secateurref07_Fits.l0 k x1 x2 x7 0 x217000 x217001 x217002 x217003 x217004 x217005 x217006 x217007 x217008)
def secateurref07_Fits.l0 : Nat → Int → Int → ByteArray → Int → Int → Int → Int → Int → Int → ByteArray → ByteArray → ByteArray → List Int → Option (Int)
  | 0, _, _, _, _, _, _, _, _, _, _, _, _, _ => none
  | k + 1, x1, x2, x7, x13, x217000, x217001, x217002, x217003, x217004, x217005, x217006, x217007, x217008 => if x13 < (x217008.length : Int) then (if 0 ≤ x13 then ((secateurref07_within.f (rd x217008 x13) x1).bind fun t243 => (if t243 = true then (secateurref07_Fits.l0 k x1 x2 x7 (wrap64 (x13 + 1)) x217000 x217001 x217002 x217003 x217004 x217005 x217006 x217007 x217008) else (some 12))) else (none)) else ((secateurref07_Has.f x7 116).bind fun t244 => (if t244 = true then (if x217004 < 0 then (some 12) else (if x217004 ≥ x2 then (some 12) else ((secateurref07_Has.f x7 114).bind fun t245 => (if t245 = true then (if x217004 > 9 then (some 12) else (some 0)) else (some 0))))) else ((secateurref07_Has.f x7 114).bind fun t246 => (if t246 = true then (if x217004 < 0 then (some 12) else (if x217004 > 9 then (some 12) else (some 0))) else (some 0)))))
end
def secateurref07_Fits.f (k : Nat) (a0_0 : Int) (a0_1 : Int) (a0_2 : Int) (a0_3 : Int) (a0_4 : Int) (a0_5 : ByteArray) (a0_6 : ByteArray) (a0_7 : ByteArray) (l0_8 : List Int) (a1 : Int) (a2 : Int) : Option (Int) := (secateurref07_Shape.f k a0_0).bind fun t217 => (if a0_0 < 1 then (secateurref07_Fits.j0 k a1 a2 t217 true a0_0 a0_1 a0_2 a0_3 a0_4 a0_5 a0_6 a0_7 l0_8) else (if a0_0 > 32 then (secateurref07_Fits.j0 k a1 a2 t217 true a0_0 a0_1 a0_2 a0_3 a0_4 a0_5 a0_6 a0_7 l0_8) else ((secateurref07_empty.f a0_0 a0_1 a0_2 a0_3 a0_4 a0_5 a0_6 a0_7 l0_8 t217).bind fun t218 => (if t218 = true then ((secateurref07_named.f k a0_0 a0_1 a0_2 a0_3 a0_4 a0_5 a0_6 a0_7 l0_8 t217).bind fun t219 => (secateurref07_Fits.j0 k a1 a2 t217 (!t219) a0_0 a0_1 a0_2 a0_3 a0_4 a0_5 a0_6 a0_7 l0_8)) else (secateurref07_Fits.j0 k a1 a2 t217 true a0_0 a0_1 a0_2 a0_3 a0_4 a0_5 a0_6 a0_7 l0_8)))))
theorem secateurref07_Fits.mono_l : ∀ k, (∀ y0 y1 y2 y3 y4 y5 y6 y7 y8 y9 y10 y11 y12, LeO (secateurref07_Fits.j0 k y0 y1 y2 y3 y4 y5 y6 y7 y8 y9 y10 y11 y12) (secateurref07_Fits.j0 (k + 1) y0 y1 y2 y3 y4 y5 y6 y7 y8 y9 y10 y11 y12)) ∧ (∀ y0 y1 y2 y3 y4 y5 y6 y7 y8 y9 y10 y11 y12, LeO (secateurref07_Fits.j1 k y0 y1 y2 y3 y4 y5 y6 y7 y8 y9 y10 y11 y12) (secateurref07_Fits.j1 (k + 1) y0 y1 y2 y3 y4 y5 y6 y7 y8 y9 y10 y11 y12)) ∧ (∀ y0 y1 y2 y3 y4 y5 y6 y7 y8 y9 y10 y11 y12, LeO (secateurref07_Fits.j2 k y0 y1 y2 y3 y4 y5 y6 y7 y8 y9 y10 y11 y12) (secateurref07_Fits.j2 (k + 1) y0 y1 y2 y3 y4 y5 y6 y7 y8 y9 y10 y11 y12)) ∧ (∀ y0 y1 y2 y3 y4 y5 y6 y7 y8 y9 y10 y11 y12, LeO (secateurref07_Fits.l0 k y0 y1 y2 y3 y4 y5 y6 y7 y8 y9 y10 y11 y12) (secateurref07_Fits.l0 (k + 1) y0 y1 y2 y3 y4 y5 y6 y7 y8 y9 y10 y11 y12))
  | 0 => ⟨fun _ _ _ _ _ _ _ _ _ _ _ _ _ r h => by simp [secateurref07_Fits.j0] at h, fun _ _ _ _ _ _ _ _ _ _ _ _ _ r h => by simp [secateurref07_Fits.j1] at h, fun _ _ _ _ _ _ _ _ _ _ _ _ _ r h => by simp [secateurref07_Fits.j2] at h, fun _ _ _ _ _ _ _ _ _ _ _ _ _ r h => by simp [secateurref07_Fits.l0] at h⟩
  | k + 1 => by
    obtain ⟨ih0, ih1, ih2, ih3⟩ := secateurref07_Fits.mono_l k
    refine ⟨?_, ?_, ?_, ?_⟩
    · intro y0 y1 y2 y3 y4 y5 y6 y7 y8 y9 y10 y11 y12
      unfold secateurref07_Fits.j0
      repeat' first
      | (with_reducible exact ih0 _ _ _ _ _ _ _ _ _ _ _ _ _)
      | (with_reducible exact ih1 _ _ _ _ _ _ _ _ _ _ _ _ _)
      | (with_reducible exact ih2 _ _ _ _ _ _ _ _ _ _ _ _ _)
      | (with_reducible exact ih3 _ _ _ _ _ _ _ _ _ _ _ _ _)
      | (with_reducible exact secateurref06_Split.mono _ _)
      | (with_reducible exact secateurref07_Shape.mono _ _)
      | (with_reducible exact secateurref07_named.mono _ _ _ _ _ _ _ _ _ _ _)
      | (with_reducible exact LeO.refl _)
      | (with_reducible exact LeO.none _)
      | (with_reducible refine LeO.ite ?_ ?_)
      | (with_reducible refine LeO.bind ?_ (fun _ => ?_))
      | exact ih0 _ _ _ _ _ _ _ _ _ _ _ _ _
      | exact ih1 _ _ _ _ _ _ _ _ _ _ _ _ _
      | exact ih2 _ _ _ _ _ _ _ _ _ _ _ _ _
      | exact ih3 _ _ _ _ _ _ _ _ _ _ _ _ _
      | exact secateurref06_Split.mono _ _
      | exact secateurref07_Shape.mono _ _
      | exact secateurref07_named.mono _ _ _ _ _ _ _ _ _ _ _
      | exact LeO.none _
      | refine LeO.ite ?_ ?_
      | refine LeO.bind ?_ (fun _ => ?_)
    · intro y0 y1 y2 y3 y4 y5 y6 y7 y8 y9 y10 y11 y12
      unfold secateurref07_Fits.j1
      repeat' first
      | (with_reducible exact ih0 _ _ _ _ _ _ _ _ _ _ _ _ _)
      | (with_reducible exact ih1 _ _ _ _ _ _ _ _ _ _ _ _ _)
      | (with_reducible exact ih2 _ _ _ _ _ _ _ _ _ _ _ _ _)
      | (with_reducible exact ih3 _ _ _ _ _ _ _ _ _ _ _ _ _)
      | (with_reducible exact secateurref06_Split.mono _ _)
      | (with_reducible exact secateurref07_Shape.mono _ _)
      | (with_reducible exact secateurref07_named.mono _ _ _ _ _ _ _ _ _ _ _)
      | (with_reducible exact LeO.refl _)
      | (with_reducible exact LeO.none _)
      | (with_reducible refine LeO.ite ?_ ?_)
      | (with_reducible refine LeO.bind ?_ (fun _ => ?_))
      | exact ih0 _ _ _ _ _ _ _ _ _ _ _ _ _
      | exact ih1 _ _ _ _ _ _ _ _ _ _ _ _ _
      | exact ih2 _ _ _ _ _ _ _ _ _ _ _ _ _
      | exact ih3 _ _ _ _ _ _ _ _ _ _ _ _ _
      | exact secateurref06_Split.mono _ _
      | exact secateurref07_Shape.mono _ _
      | exact secateurref07_named.mono _ _ _ _ _ _ _ _ _ _ _
      | exact LeO.none _
      | refine LeO.ite ?_ ?_
      | refine LeO.bind ?_ (fun _ => ?_)
    · intro y0 y1 y2 y3 y4 y5 y6 y7 y8 y9 y10 y11 y12
      unfold secateurref07_Fits.j2
      repeat' first
      | (with_reducible exact ih0 _ _ _ _ _ _ _ _ _ _ _ _ _)
      | (with_reducible exact ih1 _ _ _ _ _ _ _ _ _ _ _ _ _)
      | (with_reducible exact ih2 _ _ _ _ _ _ _ _ _ _ _ _ _)
      | (with_reducible exact ih3 _ _ _ _ _ _ _ _ _ _ _ _ _)
      | (with_reducible exact secateurref06_Split.mono _ _)
      | (with_reducible exact secateurref07_Shape.mono _ _)
      | (with_reducible exact secateurref07_named.mono _ _ _ _ _ _ _ _ _ _ _)
      | (with_reducible exact LeO.refl _)
      | (with_reducible exact LeO.none _)
      | (with_reducible refine LeO.ite ?_ ?_)
      | (with_reducible refine LeO.bind ?_ (fun _ => ?_))
      | exact ih0 _ _ _ _ _ _ _ _ _ _ _ _ _
      | exact ih1 _ _ _ _ _ _ _ _ _ _ _ _ _
      | exact ih2 _ _ _ _ _ _ _ _ _ _ _ _ _
      | exact ih3 _ _ _ _ _ _ _ _ _ _ _ _ _
      | exact secateurref06_Split.mono _ _
      | exact secateurref07_Shape.mono _ _
      | exact secateurref07_named.mono _ _ _ _ _ _ _ _ _ _ _
      | exact LeO.none _
      | refine LeO.ite ?_ ?_
      | refine LeO.bind ?_ (fun _ => ?_)
    · intro y0 y1 y2 y3 y4 y5 y6 y7 y8 y9 y10 y11 y12
      unfold secateurref07_Fits.l0
      repeat' first
      | (with_reducible exact ih0 _ _ _ _ _ _ _ _ _ _ _ _ _)
      | (with_reducible exact ih1 _ _ _ _ _ _ _ _ _ _ _ _ _)
      | (with_reducible exact ih2 _ _ _ _ _ _ _ _ _ _ _ _ _)
      | (with_reducible exact ih3 _ _ _ _ _ _ _ _ _ _ _ _ _)
      | (with_reducible exact secateurref06_Split.mono _ _)
      | (with_reducible exact secateurref07_Shape.mono _ _)
      | (with_reducible exact secateurref07_named.mono _ _ _ _ _ _ _ _ _ _ _)
      | (with_reducible exact LeO.refl _)
      | (with_reducible exact LeO.none _)
      | (with_reducible refine LeO.ite ?_ ?_)
      | (with_reducible refine LeO.bind ?_ (fun _ => ?_))
      | exact ih0 _ _ _ _ _ _ _ _ _ _ _ _ _
      | exact ih1 _ _ _ _ _ _ _ _ _ _ _ _ _
      | exact ih2 _ _ _ _ _ _ _ _ _ _ _ _ _
      | exact ih3 _ _ _ _ _ _ _ _ _ _ _ _ _
      | exact secateurref06_Split.mono _ _
      | exact secateurref07_Shape.mono _ _
      | exact secateurref07_named.mono _ _ _ _ _ _ _ _ _ _ _
      | exact LeO.none _
      | refine LeO.ite ?_ ?_
      | refine LeO.bind ?_ (fun _ => ?_)
theorem secateurref07_Fits.mono : ∀ a0 a1 a2 a3 a4 a5 a6 a7 a8 a9 a10 k, LeO (secateurref07_Fits.f k a0 a1 a2 a3 a4 a5 a6 a7 a8 a9 a10) (secateurref07_Fits.f (k + 1) a0 a1 a2 a3 a4 a5 a6 a7 a8 a9 a10) := by
  intro a0 a1 a2 a3 a4 a5 a6 a7 a8 a9 a10 k
  obtain ⟨ih0, ih1, ih2, ih3⟩ := secateurref07_Fits.mono_l k
  unfold secateurref07_Fits.f
  repeat' first
      | (with_reducible exact ih0 _ _ _ _ _ _ _ _ _ _ _ _ _)
      | (with_reducible exact ih1 _ _ _ _ _ _ _ _ _ _ _ _ _)
      | (with_reducible exact ih2 _ _ _ _ _ _ _ _ _ _ _ _ _)
      | (with_reducible exact ih3 _ _ _ _ _ _ _ _ _ _ _ _ _)
      | (with_reducible exact secateurref06_Split.mono _ _)
      | (with_reducible exact secateurref07_Shape.mono _ _)
      | (with_reducible exact secateurref07_named.mono _ _ _ _ _ _ _ _ _ _ _)
      | (with_reducible exact LeO.refl _)
      | (with_reducible exact LeO.none _)
      | (with_reducible refine LeO.ite ?_ ?_)
      | (with_reducible refine LeO.bind ?_ (fun _ => ?_))
      | exact ih0 _ _ _ _ _ _ _ _ _ _ _ _ _
      | exact ih1 _ _ _ _ _ _ _ _ _ _ _ _ _
      | exact ih2 _ _ _ _ _ _ _ _ _ _ _ _ _
      | exact ih3 _ _ _ _ _ _ _ _ _ _ _ _ _
      | exact secateurref06_Split.mono _ _
      | exact secateurref07_Shape.mono _ _
      | exact secateurref07_named.mono _ _ _ _ _ _ _ _ _ _ _
      | exact LeO.none _
      | refine LeO.ite ?_ ?_
      | refine LeO.bind ?_ (fun _ => ?_)
set_option maxHeartbeats 8000000 in
set_option maxRecDepth 100000 in
theorem secateurref07_Fits.calls (k : Nat) (a0_0 : Int) (a0_1 : Int) (a0_2 : Int) (a0_3 : Int) (a0_4 : Int) (a0_5 : ByteArray) (a0_6 : ByteArray) (a0_7 : ByteArray) (A0_8 : Option Addr) (c0_8 : Nat) (l0_8 : List Int) (a1 : Int) (a2 : Int) (r : Int) (w : World) (hr0_8 : Kd.C (Kd.int .i64) w A0_8 l0_8.length l0_8) (hc0_8 : l0_8.length ≤ c0_8) (h : secateurref07_Fits.f k a0_0 a0_1 a0_2 a0_3 a0_4 a0_5 a0_6 a0_7 l0_8 a1 a2 = some r) :
    Calls Tryd.prog 24 #[.agg #[.int .i64 a0_0, .int .i64 a0_1, .int .i64 a0_2, .int .i64 a0_3, .int .i64 a0_4, .string a0_5, .string a0_6, .string a0_7, .slice A0_8 l0_8.length c0_8], .int .i64 a1, .int .i64 a2] w fun e w' => e = .returned (.int .i64 r) ∧ Below w.heap.size w w' := by
  have hu44 := Tryd.underlying44
  have hu75 := Tryd.underlying75
  have HR0_8 := Aside0.mk hr0_8
  have HC0_8 := Aside0.mk hc0_8
  clear hr0_8 hc0_8
  have HB := Aside0.mk (Below.refl w.heap.size w)
  have H : ((secateurref07_Shape.f k a0_0).bind fun t217 => (if a0_0 < 1 then (secateurref07_Fits.j0 k a1 a2 t217 true a0_0 a0_1 a0_2 a0_3 a0_4 a0_5 a0_6 a0_7 l0_8) else (if a0_0 > 32 then (secateurref07_Fits.j0 k a1 a2 t217 true a0_0 a0_1 a0_2 a0_3 a0_4 a0_5 a0_6 a0_7 l0_8) else ((secateurref07_empty.f a0_0 a0_1 a0_2 a0_3 a0_4 a0_5 a0_6 a0_7 l0_8 t217).bind fun t218 => (if t218 = true then ((secateurref07_named.f k a0_0 a0_1 a0_2 a0_3 a0_4 a0_5 a0_6 a0_7 l0_8 t217).bind fun t219 => (secateurref07_Fits.j0 k a1 a2 t217 (!t219) a0_0 a0_1 a0_2 a0_3 a0_4 a0_5 a0_6 a0_7 l0_8)) else (secateurref07_Fits.j0 k a1 a2 t217 true a0_0 a0_1 a0_2 a0_3 a0_4 a0_5 a0_6 a0_7 l0_8)))))) = some r := h
  clear h
  replace H := Option.bind_eq_some_iff.mp H
  obtain ⟨t217, A40, H⟩ := H
  replace H : (if a0_0 < 1 then (secateurref07_Fits.j0 k a1 a2 t217 true a0_0 a0_1 a0_2 a0_3 a0_4 a0_5 a0_6 a0_7 l0_8) else (if a0_0 > 32 then (secateurref07_Fits.j0 k a1 a2 t217 true a0_0 a0_1 a0_2 a0_3 a0_4 a0_5 a0_6 a0_7 l0_8) else ((secateurref07_empty.f a0_0 a0_1 a0_2 a0_3 a0_4 a0_5 a0_6 a0_7 l0_8 t217).bind fun t218 => (if t218 = true then ((secateurref07_named.f k a0_0 a0_1 a0_2 a0_3 a0_4 a0_5 a0_6 a0_7 l0_8 t217).bind fun t219 => (secateurref07_Fits.j0 k a1 a2 t217 (!t219) a0_0 a0_1 a0_2 a0_3 a0_4 a0_5 a0_6 a0_7 l0_8)) else (secateurref07_Fits.j0 k a1 a2 t217 true a0_0 a0_1 a0_2 a0_3 a0_4 a0_5 a0_6 a0_7 l0_8))))) = some r := H
  have A4 := Aside0.mk A40
  clear A40
  have HC5 := Aside0.mk H
  clear H
  go_enter Tryd.func24, Tryd.ntmps24
  go_upto_region 2 with (first | ((with_reducible refine gate_dst (N := 3) rfl ?_); refine box_event ?hg (N := 3) ?hd (cs := #[.int .i64 a0_0, .int .i64 a0_1, .int .i64 a0_2, .int .i64 a0_3, .int .i64 a0_4, .string a0_5, .string a0_6, .string a0_7, .slice A0_8 l0_8.length c0_8]) (t := 44) ?hr ?_; (case hd => rfl); (case hg => rfl); (case hr => first | (go_simp; done) | (go_simp; rfl)); intro gb216 hg w6 hbox hb; have n0_ := Aside0.mk (below_step (by repeat (first | (with_reducible first | exact HB.out | apply below_alloc | apply pw_below_drewN | apply below_drew1) | exact HB.out)) hb); have n1_ := Aside0.mk (hbox); have n2_ := Aside0.mk ((by rw [hg]; exact (below_size (by repeat (first | (with_reducible first | exact HB.out | apply below_alloc | apply pw_below_drewN | apply below_drew1) | exact HB.out))) : w.heap.size ≤ gb216)); have n3_ := Aside0.mk ((by rw [hg]; exact (below_size (by repeat (first | (with_reducible first | exact HB.out | apply below_alloc | apply pw_below_drewN | apply below_drew1) | exact HB.out))) : w.heap.size ≤ gb216)); clear HB; have HB := n0_; have BK216 := n1_; have GW216 := n2_; have GE216 := n3_; clear n0_ n1_ n2_ n3_; clear hb hbox hg; have hcz7_0 : w6.cell? ⟨gb216, 0, none⟩ = some (.int .i64 a0_0) := (blk_cell BK216.out 0).trans rfl; have hcz7_1 : w6.cell? ⟨gb216, 1, none⟩ = some (.int .i64 a0_1) := (blk_cell BK216.out 1).trans rfl; have hcz7_2 : w6.cell? ⟨gb216, 2, none⟩ = some (.int .i64 a0_2) := (blk_cell BK216.out 2).trans rfl; have hcz7_3 : w6.cell? ⟨gb216, 3, none⟩ = some (.int .i64 a0_3) := (blk_cell BK216.out 3).trans rfl; have hcz7_4 : w6.cell? ⟨gb216, 4, none⟩ = some (.int .i64 a0_4) := (blk_cell BK216.out 4).trans rfl; have hcz7_5 : w6.cell? ⟨gb216, 5, none⟩ = some (.string a0_5) := (blk_cell BK216.out 5).trans rfl; have hcz7_6 : w6.cell? ⟨gb216, 6, none⟩ = some (.string a0_6) := (blk_cell BK216.out 6).trans rfl; have hcz7_7 : w6.cell? ⟨gb216, 7, none⟩ = some (.string a0_7) := (blk_cell BK216.out 7).trans rfl; have hcz7_8 : w6.cell? ⟨gb216, 8, none⟩ = some (.slice A0_8 l0_8.length c0_8) := (blk_cell BK216.out 8).trans rfl; have hfz7_0 := blk_frozen BK216.out 0; have hfz7_1 := blk_frozen BK216.out 1; have hfz7_2 := blk_frozen BK216.out 2; have hfz7_3 := blk_frozen BK216.out 3; have hfz7_4 := blk_frozen BK216.out 4; have hfz7_5 := blk_frozen BK216.out 5; have hfz7_6 := blk_frozen BK216.out 6; have hfz7_7 := blk_frozen BK216.out 7; have hfz7_8 := blk_frozen BK216.out 8) | ((with_reducible refine gate_callee (f := 17) rfl ?_); refine goesL_ (some 16) rfl rfl Tryd.func17 (by kernel_rfl) rfl #[.int .i64 a0_0] rfl (by (try simp only [List.map_toArray, List.map_cons, List.map_nil]); first | done | rfl | (simp only [List.length_drop, List.length_take]; rfl)) ?_; (with_reducible refine (secateurref07_Shape.calls k a0_0 t217 _ A4.out).mono ?_); rintro e w' ⟨rfl, ⟨nd, rfl⟩⟩; refine ⟨_, rfl, ?_⟩))
  (try simp only [Act.put, List.setIfInBounds_toArray, List.set_cons_zero, List.set_cons_succ])
  go_cut [36] (fun v36 wc => ∃ (kq : Nat) (x36_4 : Bool), v36 = .bool x36_4 ∧ Aside0 (secateurref07_Fits.j0 kq a1 a2 t217 x36_4 a0_0 a0_1 a0_2 a0_3 a0_4 a0_5 a0_6 a0_7 l0_8 = some r) ∧ Aside0 (kq ≤ k) ∧ Aside0 (wc.heap[gb216]? = some (.cells #[.int .i64 a0_0, .int .i64 a0_1, .int .i64 a0_2, .int .i64 a0_3, .int .i64 a0_4, .string a0_5, .string a0_6, .string a0_7, (.slice A0_8 l0_8.length c0_8)] 44 (0, 0))) ∧ Aside0 (Below w.heap.size w wc))
  case first =>
    have H := HC5.out
    clear HC5
    by_cases c8 : a0_0 < 1
    · rw [if_pos c8] at H
      have c8b0 : decide (a0_0 < 1) = true := decide_eq_true c8
      clear c8
      (first | rw [c8b0] | (simp only [i64_w, i32_w]; rw [c8b0]) | skip)
      as_aux_lemma =>
        have H' := Aside0.mk H
        clear H
        have hcz9_0 : w6.cell? ⟨gb216, 0, none⟩ = some (.int .i64 a0_0) := (blk_cell BK216.out 0).trans rfl
        have hcz9_1 : w6.cell? ⟨gb216, 1, none⟩ = some (.int .i64 a0_1) := (blk_cell BK216.out 1).trans rfl
        have hcz9_2 : w6.cell? ⟨gb216, 2, none⟩ = some (.int .i64 a0_2) := (blk_cell BK216.out 2).trans rfl
        have hcz9_3 : w6.cell? ⟨gb216, 3, none⟩ = some (.int .i64 a0_3) := (blk_cell BK216.out 3).trans rfl
        have hcz9_4 : w6.cell? ⟨gb216, 4, none⟩ = some (.int .i64 a0_4) := (blk_cell BK216.out 4).trans rfl
        have hcz9_5 : w6.cell? ⟨gb216, 5, none⟩ = some (.string a0_5) := (blk_cell BK216.out 5).trans rfl
        have hcz9_6 : w6.cell? ⟨gb216, 6, none⟩ = some (.string a0_6) := (blk_cell BK216.out 6).trans rfl
        have hcz9_7 : w6.cell? ⟨gb216, 7, none⟩ = some (.string a0_7) := (blk_cell BK216.out 7).trans rfl
        have hcz9_8 : w6.cell? ⟨gb216, 8, none⟩ = some (.slice A0_8 l0_8.length c0_8) := (blk_cell BK216.out 8).trans rfl
        have hfz9_0 := blk_frozen BK216.out 0
        have hfz9_1 := blk_frozen BK216.out 1
        have hfz9_2 := blk_frozen BK216.out 2
        have hfz9_3 := blk_frozen BK216.out 3
        have hfz9_4 := blk_frozen BK216.out 4
        have hfz9_5 := blk_frozen BK216.out 5
        have hfz9_6 := blk_frozen BK216.out 6
        have hfz9_7 := blk_frozen BK216.out 7
        have hfz9_8 := blk_frozen BK216.out 8
        go_wp2
        go_meet
        case rel => exact ⟨_, (true), (by first | rfl | (simp; done) | (simp [*]; done)), H', ⟨by first | omega | exact Nat.le_refl _⟩, ⟨by (with_reducible repeat (first | refine blk_drewN ?_ _ | refine blk_drew ?_ | refine blk_alloc ?_ _)); exact BK216.out⟩, ⟨by repeat (first | (with_reducible first | exact HB.out | apply below_alloc | apply pw_below_drewN | apply below_drew1 | refine below_set ?_ GE216.out) | exact HB.out)⟩⟩
    · rw [if_neg c8] at H
      have c8b0 : decide (a0_0 < 1) = false := decide_eq_false c8
      clear c8
      (first | rw [c8b0] | (simp only [i64_w, i32_w]; rw [c8b0]) | skip)
      by_cases c10 : a0_0 > 32
      · rw [if_pos c10] at H
        have c10b0 : decide (32 < a0_0) = true := decide_eq_true c10
        clear c10
        as_aux_lemma =>
          have H' := Aside0.mk H
          clear H
          have hcz11_0 : w6.cell? ⟨gb216, 0, none⟩ = some (.int .i64 a0_0) := (blk_cell BK216.out 0).trans rfl
          have hcz11_1 : w6.cell? ⟨gb216, 1, none⟩ = some (.int .i64 a0_1) := (blk_cell BK216.out 1).trans rfl
          have hcz11_2 : w6.cell? ⟨gb216, 2, none⟩ = some (.int .i64 a0_2) := (blk_cell BK216.out 2).trans rfl
          have hcz11_3 : w6.cell? ⟨gb216, 3, none⟩ = some (.int .i64 a0_3) := (blk_cell BK216.out 3).trans rfl
          have hcz11_4 : w6.cell? ⟨gb216, 4, none⟩ = some (.int .i64 a0_4) := (blk_cell BK216.out 4).trans rfl
          have hcz11_5 : w6.cell? ⟨gb216, 5, none⟩ = some (.string a0_5) := (blk_cell BK216.out 5).trans rfl
          have hcz11_6 : w6.cell? ⟨gb216, 6, none⟩ = some (.string a0_6) := (blk_cell BK216.out 6).trans rfl
          have hcz11_7 : w6.cell? ⟨gb216, 7, none⟩ = some (.string a0_7) := (blk_cell BK216.out 7).trans rfl
          have hcz11_8 : w6.cell? ⟨gb216, 8, none⟩ = some (.slice A0_8 l0_8.length c0_8) := (blk_cell BK216.out 8).trans rfl
          have hfz11_0 := blk_frozen BK216.out 0
          have hfz11_1 := blk_frozen BK216.out 1
          have hfz11_2 := blk_frozen BK216.out 2
          have hfz11_3 := blk_frozen BK216.out 3
          have hfz11_4 := blk_frozen BK216.out 4
          have hfz11_5 := blk_frozen BK216.out 5
          have hfz11_6 := blk_frozen BK216.out 6
          have hfz11_7 := blk_frozen BK216.out 7
          have hfz11_8 := blk_frozen BK216.out 8
          go_wp2
          go_meet
          case rel => exact ⟨_, (true), (by first | rfl | (simp; done) | (simp [*]; done)), H', ⟨by first | omega | exact Nat.le_refl _⟩, ⟨by (with_reducible repeat (first | refine blk_drewN ?_ _ | refine blk_drew ?_ | refine blk_alloc ?_ _)); exact BK216.out⟩, ⟨by repeat (first | (with_reducible first | exact HB.out | apply below_alloc | apply pw_below_drewN | apply below_drew1 | refine below_set ?_ GE216.out) | exact HB.out)⟩⟩
      · rw [if_neg c10] at H
        have c10b0 : decide (32 < a0_0) = false := decide_eq_false c10
        clear c10
        replace H := Option.bind_eq_some_iff.mp H
        obtain ⟨t218, A120, H⟩ := H
        replace H : (if t218 = true then ((secateurref07_named.f k a0_0 a0_1 a0_2 a0_3 a0_4 a0_5 a0_6 a0_7 l0_8 t217).bind fun t219 => (secateurref07_Fits.j0 k a1 a2 t217 (!t219) a0_0 a0_1 a0_2 a0_3 a0_4 a0_5 a0_6 a0_7 l0_8)) else (secateurref07_Fits.j0 k a1 a2 t217 true a0_0 a0_1 a0_2 a0_3 a0_4 a0_5 a0_6 a0_7 l0_8)) = some r := H
        have A12 := Aside0.mk A120
        clear A120
        by_cases c13 : t218 = true
        · subst c13
          have H1 : ((secateurref07_named.f k a0_0 a0_1 a0_2 a0_3 a0_4 a0_5 a0_6 a0_7 l0_8 t217).bind fun t219 => (secateurref07_Fits.j0 k a1 a2 t217 (!t219) a0_0 a0_1 a0_2 a0_3 a0_4 a0_5 a0_6 a0_7 l0_8)) = some r := by rw [if_pos rfl] at H; exact H
          clear H
          have H := H1
          clear H1
          replace H := Option.bind_eq_some_iff.mp H
          obtain ⟨t219, A140, H⟩ := H
          replace H : (secateurref07_Fits.j0 k a1 a2 t217 (!t219) a0_0 a0_1 a0_2 a0_3 a0_4 a0_5 a0_6 a0_7 l0_8) = some r := H
          have A14 := Aside0.mk A140
          clear A140
          as_aux_lemma =>
            have H' := Aside0.mk H
            clear H
            have hcz15_0 : w6.cell? ⟨gb216, 0, none⟩ = some (.int .i64 a0_0) := (blk_cell BK216.out 0).trans rfl
            have hcz15_1 : w6.cell? ⟨gb216, 1, none⟩ = some (.int .i64 a0_1) := (blk_cell BK216.out 1).trans rfl
            have hcz15_2 : w6.cell? ⟨gb216, 2, none⟩ = some (.int .i64 a0_2) := (blk_cell BK216.out 2).trans rfl
            have hcz15_3 : w6.cell? ⟨gb216, 3, none⟩ = some (.int .i64 a0_3) := (blk_cell BK216.out 3).trans rfl
            have hcz15_4 : w6.cell? ⟨gb216, 4, none⟩ = some (.int .i64 a0_4) := (blk_cell BK216.out 4).trans rfl
            have hcz15_5 : w6.cell? ⟨gb216, 5, none⟩ = some (.string a0_5) := (blk_cell BK216.out 5).trans rfl
            have hcz15_6 : w6.cell? ⟨gb216, 6, none⟩ = some (.string a0_6) := (blk_cell BK216.out 6).trans rfl
            have hcz15_7 : w6.cell? ⟨gb216, 7, none⟩ = some (.string a0_7) := (blk_cell BK216.out 7).trans rfl
            have hcz15_8 : w6.cell? ⟨gb216, 8, none⟩ = some (.slice A0_8 l0_8.length c0_8) := (blk_cell BK216.out 8).trans rfl
            have hfz15_0 := blk_frozen BK216.out 0
            have hfz15_1 := blk_frozen BK216.out 1
            have hfz15_2 := blk_frozen BK216.out 2
            have hfz15_3 := blk_frozen BK216.out 3
            have hfz15_4 := blk_frozen BK216.out 4
            have hfz15_5 := blk_frozen BK216.out 5
            have hfz15_6 := blk_frozen BK216.out 6
            have hfz15_7 := blk_frozen BK216.out 7
            have hfz15_8 := blk_frozen BK216.out 8
            go_wp2_with (first | (go_at_call 45; (with_reducible refine (secateurref07_empty.calls a0_0 a0_1 a0_2 a0_3 a0_4 a0_5 a0_6 a0_7 _ _ l0_8 t217 true _ ?side1 ?side2 A12.out).mono ?_); (case side1 => repeat (first | exact (Kd.C_below HR0_8.out HB.out) | (with_reducible refine Kd.C_alloc ?_ _) | (with_reducible refine Kd.C_drewN ?_ _) | (with_reducible refine Kd.C_drew ?_))); (case side2 => exact HC0_8.out); rintro e w16 ⟨rfl, hb⟩; have n0_ := Aside0.mk (blk_below (g := gb216) (o := .cells #[.int .i64 a0_0, .int .i64 a0_1, .int .i64 a0_2, .int .i64 a0_3, .int .i64 a0_4, .string a0_5, .string a0_6, .string a0_7, .slice A0_8 l0_8.length c0_8] 44 (0, 0)) (by (with_reducible repeat (first | refine blk_drewN ?_ _ | refine blk_drew ?_ | refine blk_alloc ?_ _)); exact BK216.out) hb); have n1_ := Aside0.mk (below_step (by repeat (first | (with_reducible first | exact HB.out | apply below_alloc | apply pw_below_drewN | apply below_drew1 | refine below_set ?_ GE216.out) | exact HB.out)) hb); clear BK216; clear HB; have BK216 := n0_; have HB := n1_; clear n0_ n1_; (try clear hb); (try clear hb2); (try clear hk); (try clear hi); have hcz17_0 : w16.cell? ⟨gb216, 0, none⟩ = some (.int .i64 a0_0) := (blk_cell BK216.out 0).trans rfl; have hcz17_1 : w16.cell? ⟨gb216, 1, none⟩ = some (.int .i64 a0_1) := (blk_cell BK216.out 1).trans rfl; have hcz17_2 : w16.cell? ⟨gb216, 2, none⟩ = some (.int .i64 a0_2) := (blk_cell BK216.out 2).trans rfl; have hcz17_3 : w16.cell? ⟨gb216, 3, none⟩ = some (.int .i64 a0_3) := (blk_cell BK216.out 3).trans rfl; have hcz17_4 : w16.cell? ⟨gb216, 4, none⟩ = some (.int .i64 a0_4) := (blk_cell BK216.out 4).trans rfl; have hcz17_5 : w16.cell? ⟨gb216, 5, none⟩ = some (.string a0_5) := (blk_cell BK216.out 5).trans rfl; have hcz17_6 : w16.cell? ⟨gb216, 6, none⟩ = some (.string a0_6) := (blk_cell BK216.out 6).trans rfl; have hcz17_7 : w16.cell? ⟨gb216, 7, none⟩ = some (.string a0_7) := (blk_cell BK216.out 7).trans rfl; have hcz17_8 : w16.cell? ⟨gb216, 8, none⟩ = some (.slice A0_8 l0_8.length c0_8) := (blk_cell BK216.out 8).trans rfl; have hfz17_0 := blk_frozen BK216.out 0; have hfz17_1 := blk_frozen BK216.out 1; have hfz17_2 := blk_frozen BK216.out 2; have hfz17_3 := blk_frozen BK216.out 3; have hfz17_4 := blk_frozen BK216.out 4; have hfz17_5 := blk_frozen BK216.out 5; have hfz17_6 := blk_frozen BK216.out 6; have hfz17_7 := blk_frozen BK216.out 7; have hfz17_8 := blk_frozen BK216.out 8) | (go_at_call 46; (with_reducible refine (secateurref07_named.calls k a0_0 a0_1 a0_2 a0_3 a0_4 a0_5 a0_6 a0_7 _ _ l0_8 t217 t219 _ ?side1 ?side2 A14.out).mono ?_); (case side1 => repeat (first | exact (Kd.C_below HR0_8.out HB.out) | (with_reducible refine Kd.C_alloc ?_ _) | (with_reducible refine Kd.C_drewN ?_ _) | (with_reducible refine Kd.C_drew ?_))); (case side2 => exact HC0_8.out); rintro e w18 ⟨rfl, hb⟩; have n0_ := Aside0.mk (blk_below (g := gb216) (o := .cells #[.int .i64 a0_0, .int .i64 a0_1, .int .i64 a0_2, .int .i64 a0_3, .int .i64 a0_4, .string a0_5, .string a0_6, .string a0_7, .slice A0_8 l0_8.length c0_8] 44 (0, 0)) (by (with_reducible repeat (first | refine blk_drewN ?_ _ | refine blk_drew ?_ | refine blk_alloc ?_ _)); exact BK216.out) hb); have n1_ := Aside0.mk (below_step (by repeat (first | (with_reducible first | exact HB.out | apply below_alloc | apply pw_below_drewN | apply below_drew1 | refine below_set ?_ GE216.out) | exact HB.out)) hb); clear BK216; clear HB; have BK216 := n0_; have HB := n1_; clear n0_ n1_; (try clear hb); (try clear hb2); (try clear hk); (try clear hi)))
            go_meet
            case rel => exact ⟨_, (!t219), (by first | rfl | (simp; done) | (simp [*]; done)), H', ⟨by first | omega | exact Nat.le_refl _⟩, ⟨by (with_reducible repeat (first | refine blk_drewN ?_ _ | refine blk_drew ?_ | refine blk_alloc ?_ _)); exact BK216.out⟩, ⟨by repeat (first | (with_reducible first | exact HB.out | apply below_alloc | apply pw_below_drewN | apply below_drew1 | refine below_set ?_ GE216.out) | exact HB.out)⟩⟩
        · replace c13 := Bool.eq_false_iff.mpr c13
          subst c13
          have H1 : (secateurref07_Fits.j0 k a1 a2 t217 true a0_0 a0_1 a0_2 a0_3 a0_4 a0_5 a0_6 a0_7 l0_8) = some r := by rw [if_neg (show ¬ (false = true) by decide)] at H; exact H
          clear H
          have H := H1
          clear H1
          as_aux_lemma =>
            have H' := Aside0.mk H
            clear H
            have hcz19_0 : w6.cell? ⟨gb216, 0, none⟩ = some (.int .i64 a0_0) := (blk_cell BK216.out 0).trans rfl
            have hcz19_1 : w6.cell? ⟨gb216, 1, none⟩ = some (.int .i64 a0_1) := (blk_cell BK216.out 1).trans rfl
            have hcz19_2 : w6.cell? ⟨gb216, 2, none⟩ = some (.int .i64 a0_2) := (blk_cell BK216.out 2).trans rfl
            have hcz19_3 : w6.cell? ⟨gb216, 3, none⟩ = some (.int .i64 a0_3) := (blk_cell BK216.out 3).trans rfl
            have hcz19_4 : w6.cell? ⟨gb216, 4, none⟩ = some (.int .i64 a0_4) := (blk_cell BK216.out 4).trans rfl
            have hcz19_5 : w6.cell? ⟨gb216, 5, none⟩ = some (.string a0_5) := (blk_cell BK216.out 5).trans rfl
            have hcz19_6 : w6.cell? ⟨gb216, 6, none⟩ = some (.string a0_6) := (blk_cell BK216.out 6).trans rfl
            have hcz19_7 : w6.cell? ⟨gb216, 7, none⟩ = some (.string a0_7) := (blk_cell BK216.out 7).trans rfl
            have hcz19_8 : w6.cell? ⟨gb216, 8, none⟩ = some (.slice A0_8 l0_8.length c0_8) := (blk_cell BK216.out 8).trans rfl
            have hfz19_0 := blk_frozen BK216.out 0
            have hfz19_1 := blk_frozen BK216.out 1
            have hfz19_2 := blk_frozen BK216.out 2
            have hfz19_3 := blk_frozen BK216.out 3
            have hfz19_4 := blk_frozen BK216.out 4
            have hfz19_5 := blk_frozen BK216.out 5
            have hfz19_6 := blk_frozen BK216.out 6
            have hfz19_7 := blk_frozen BK216.out 7
            have hfz19_8 := blk_frozen BK216.out 8
            go_wp2_with (first | (go_at_call 45; (with_reducible refine (secateurref07_empty.calls a0_0 a0_1 a0_2 a0_3 a0_4 a0_5 a0_6 a0_7 _ _ l0_8 t217 false _ ?side1 ?side2 A12.out).mono ?_); (case side1 => repeat (first | exact (Kd.C_below HR0_8.out HB.out) | (with_reducible refine Kd.C_alloc ?_ _) | (with_reducible refine Kd.C_drewN ?_ _) | (with_reducible refine Kd.C_drew ?_))); (case side2 => exact HC0_8.out); rintro e w20 ⟨rfl, hb⟩; have n0_ := Aside0.mk (blk_below (g := gb216) (o := .cells #[.int .i64 a0_0, .int .i64 a0_1, .int .i64 a0_2, .int .i64 a0_3, .int .i64 a0_4, .string a0_5, .string a0_6, .string a0_7, .slice A0_8 l0_8.length c0_8] 44 (0, 0)) (by (with_reducible repeat (first | refine blk_drewN ?_ _ | refine blk_drew ?_ | refine blk_alloc ?_ _)); exact BK216.out) hb); have n1_ := Aside0.mk (below_step (by repeat (first | (with_reducible first | exact HB.out | apply below_alloc | apply pw_below_drewN | apply below_drew1 | refine below_set ?_ GE216.out) | exact HB.out)) hb); clear BK216; clear HB; have BK216 := n0_; have HB := n1_; clear n0_ n1_; (try clear hb); (try clear hb2); (try clear hk); (try clear hi)))
            go_meet
            case rel => exact ⟨_, (true), (by first | rfl | (simp; done) | (simp [*]; done)), H', ⟨by first | omega | exact Nat.le_refl _⟩, ⟨by (with_reducible repeat (first | refine blk_drewN ?_ _ | refine blk_drew ?_ | refine blk_alloc ?_ _)); exact BK216.out⟩, ⟨by repeat (first | (with_reducible first | exact HB.out | apply below_alloc | apply pw_below_drewN | apply below_drew1 | refine below_set ?_ GE216.out) | exact HB.out)⟩⟩
  case rest =>
    clear HC5
    try clear c1
    try clear c2
    try clear p2
    try clear c8
    try clear c8b0
    try clear c10
    try clear c10b0
    try clear c13
    try clear c17
    try clear hcz11_0
    try clear hcz11_1
    try clear hcz11_2
    try clear hcz11_3
    try clear hcz11_4
    try clear hcz11_5
    try clear hcz11_6
    try clear hcz11_7
    try clear hcz11_8
    try clear hcz15_0
    try clear hcz15_1
    try clear hcz15_2
    try clear hcz15_3
    try clear hcz15_4
    try clear hcz15_5
    try clear hcz15_6
    try clear hcz15_7
    try clear hcz15_8
    try clear hcz17_0
    try clear hcz17_1
    try clear hcz17_2
    try clear hcz17_3
    try clear hcz17_4
    try clear hcz17_5
    try clear hcz17_6
    try clear hcz17_7
    try clear hcz17_8
    try clear hcz19_0
    try clear hcz19_1
    try clear hcz19_2
    try clear hcz19_3
    try clear hcz19_4
    try clear hcz19_5
    try clear hcz19_6
    try clear hcz19_7
    try clear hcz19_8
    try clear hcz7_0
    try clear hcz7_1
    try clear hcz7_2
    try clear hcz7_3
    try clear hcz7_4
    try clear hcz7_5
    try clear hcz7_6
    try clear hcz7_7
    try clear hcz7_8
    try clear hcz9_0
    try clear hcz9_1
    try clear hcz9_2
    try clear hcz9_3
    try clear hcz9_4
    try clear hcz9_5
    try clear hcz9_6
    try clear hcz9_7
    try clear hcz9_8
    try clear hfz11_0
    try clear hfz11_1
    try clear hfz11_2
    try clear hfz11_3
    try clear hfz11_4
    try clear hfz11_5
    try clear hfz11_6
    try clear hfz11_7
    try clear hfz11_8
    try clear hfz15_0
    try clear hfz15_1
    try clear hfz15_2
    try clear hfz15_3
    try clear hfz15_4
    try clear hfz15_5
    try clear hfz15_6
    try clear hfz15_7
    try clear hfz15_8
    try clear hfz17_0
    try clear hfz17_1
    try clear hfz17_2
    try clear hfz17_3
    try clear hfz17_4
    try clear hfz17_5
    try clear hfz17_6
    try clear hfz17_7
    try clear hfz17_8
    try clear hfz19_0
    try clear hfz19_1
    try clear hfz19_2
    try clear hfz19_3
    try clear hfz19_4
    try clear hfz19_5
    try clear hfz19_6
    try clear hfz19_7
    try clear hfz19_8
    try clear hfz7_0
    try clear hfz7_1
    try clear hfz7_2
    try clear hfz7_3
    try clear hfz7_4
    try clear hfz7_5
    try clear hfz7_6
    try clear hfz7_7
    try clear hfz7_8
    try clear hfz9_0
    try clear hfz9_1
    try clear hfz9_2
    try clear hfz9_3
    try clear hfz9_4
    try clear hfz9_5
    try clear hfz9_6
    try clear hfz9_7
    try clear hfz9_8
    obtain ⟨kq, x36_4, rfl, HA, HJ4, BK216, HB⟩ := hcut
    cases kq with
    | zero => exact absurd HA.out (by simp [secateurref07_Fits.j0])
    | succ kj4 =>
      have H := HA.out
      clear HA
      simp only [secateurref07_Fits.j0] at H
      by_cases c21 : x36_4 = true
      · subst c21
        have H1 : (some 1) = some r := by rw [if_pos rfl] at H; exact H
        clear H
        have H := H1
        clear H1
        as_aux_lemma =>
          obtain rfl := Option.some.inj H
          simp only [Option.some.injEq, Prod.mk.injEq] at H
          obtain ⟨rfl⟩ := H
          go_wp2
          go_ret
          exact ⟨by first | rfl | (simp [errW_none, errW_some] <;> rfl) | (simp [*, errW_none, errW_some] <;> rfl), by repeat (first | (with_reducible first | exact HB.out | apply below_alloc | apply pw_below_drewN | apply below_drew1 | refine below_set ?_ GE216.out) | exact HB.out)⟩
      · replace c21 := Bool.eq_false_iff.mpr c21
        subst c21
        have H1 : ((secateurref07_IsCall.f a0_0).bind fun t220 => (if t220 = true then ((secateurref06_Split.f kj4 a0_7).bind fun bt221 => (if a0_0 = 19 then (if (l0_8.length : Int) = (bt221.1.length : Int) then (secateurref07_Fits.j1 kj4 a1 a2 t217 (bt221.2.1 == 1) a0_0 a0_1 a0_2 a0_3 a0_4 a0_5 a0_6 a0_7 l0_8) else (some 9)) else (if (l0_8.length : Int) = (wrap64 ((bt221.1.length : Int) + 1)) then (secateurref07_Fits.j1 kj4 a1 a2 t217 (bt221.2.1 == 1) a0_0 a0_1 a0_2 a0_3 a0_4 a0_5 a0_6 a0_7 l0_8) else (some 9)))) else (secateurref07_Fits.j1 kj4 a1 a2 t217 false a0_0 a0_1 a0_2 a0_3 a0_4 a0_5 a0_6 a0_7 l0_8))) = some r := by rw [if_neg (show ¬ (false = true) by decide)] at H; exact H
        clear H
        have H := H1
        clear H1
        replace H := Option.bind_eq_some_iff.mp H
        obtain ⟨t220, A220, H⟩ := H
        replace H : (if t220 = true then ((secateurref06_Split.f kj4 a0_7).bind fun bt221 => (if a0_0 = 19 then (if (l0_8.length : Int) = (bt221.1.length : Int) then (secateurref07_Fits.j1 kj4 a1 a2 t217 (bt221.2.1 == 1) a0_0 a0_1 a0_2 a0_3 a0_4 a0_5 a0_6 a0_7 l0_8) else (some 9)) else (if (l0_8.length : Int) = (wrap64 ((bt221.1.length : Int) + 1)) then (secateurref07_Fits.j1 kj4 a1 a2 t217 (bt221.2.1 == 1) a0_0 a0_1 a0_2 a0_3 a0_4 a0_5 a0_6 a0_7 l0_8) else (some 9)))) else (secateurref07_Fits.j1 kj4 a1 a2 t217 false a0_0 a0_1 a0_2 a0_3 a0_4 a0_5 a0_6 a0_7 l0_8)) = some r := H
        have A22 := Aside0.mk A220
        clear A220
        have HC23 := Aside0.mk H
        clear H
        have hcz24_0 : wc.cell? ⟨gb216, 0, none⟩ = some (.int .i64 a0_0) := (blk_cell BK216.out 0).trans rfl
        have hcz24_1 : wc.cell? ⟨gb216, 1, none⟩ = some (.int .i64 a0_1) := (blk_cell BK216.out 1).trans rfl
        have hcz24_2 : wc.cell? ⟨gb216, 2, none⟩ = some (.int .i64 a0_2) := (blk_cell BK216.out 2).trans rfl
        have hcz24_3 : wc.cell? ⟨gb216, 3, none⟩ = some (.int .i64 a0_3) := (blk_cell BK216.out 3).trans rfl
        have hcz24_4 : wc.cell? ⟨gb216, 4, none⟩ = some (.int .i64 a0_4) := (blk_cell BK216.out 4).trans rfl
        have hcz24_5 : wc.cell? ⟨gb216, 5, none⟩ = some (.string a0_5) := (blk_cell BK216.out 5).trans rfl
        have hcz24_6 : wc.cell? ⟨gb216, 6, none⟩ = some (.string a0_6) := (blk_cell BK216.out 6).trans rfl
        have hcz24_7 : wc.cell? ⟨gb216, 7, none⟩ = some (.string a0_7) := (blk_cell BK216.out 7).trans rfl
        have hcz24_8 : wc.cell? ⟨gb216, 8, none⟩ = some (.slice A0_8 l0_8.length c0_8) := (blk_cell BK216.out 8).trans rfl
        have hfz24_0 := blk_frozen BK216.out 0
        have hfz24_1 := blk_frozen BK216.out 1
        have hfz24_2 := blk_frozen BK216.out 2
        have hfz24_3 := blk_frozen BK216.out 3
        have hfz24_4 := blk_frozen BK216.out 4
        have hfz24_5 := blk_frozen BK216.out 5
        have hfz24_6 := blk_frozen BK216.out 6
        have hfz24_7 := blk_frozen BK216.out 7
        have hfz24_8 := blk_frozen BK216.out 8
        go_upto_if 39 with (first | ((with_reducible refine gate_callee (f := 19) rfl ?_); refine goesL_ (some 39) rfl rfl Tryd.func19 (by kernel_rfl) rfl #[.int .i64 a0_0] rfl (by (try simp only [List.map_toArray, List.map_cons, List.map_nil]); first | done | rfl | (simp only [List.length_drop, List.length_take]; rfl)) ?_; (with_reducible refine (secateurref07_IsCall.calls a0_0 t220 _ A22.out).mono ?_); rintro e w' ⟨rfl, ⟨nd, rfl⟩⟩; refine ⟨_, rfl, ?_⟩))
        (try simp only [Act.put, List.setIfInBounds_toArray, List.set_cons_zero, List.set_cons_succ])
        go_cut [8] (fun v8 wc => ∃ (kq : Nat) (x8_22 : Bool), v8 = .bool x8_22 ∧ Aside0 (secateurref07_Fits.j1 kq a1 a2 t217 x8_22 a0_0 a0_1 a0_2 a0_3 a0_4 a0_5 a0_6 a0_7 l0_8 = some r) ∧ Aside0 (kq ≤ kj4) ∧ Aside0 (wc.heap[gb216]? = some (.cells #[.int .i64 a0_0, .int .i64 a0_1, .int .i64 a0_2, .int .i64 a0_3, .int .i64 a0_4, .string a0_5, .string a0_6, .string a0_7, (.slice A0_8 l0_8.length c0_8)] 44 (0, 0))) ∧ Aside0 (Below w.heap.size w wc))
        case first =>
          have H := HC23.out
          clear HC23
          by_cases c25 : t220 = true
          · subst c25
            have H1 : ((secateurref06_Split.f kj4 a0_7).bind fun bt221 => (if a0_0 = 19 then (if (l0_8.length : Int) = (bt221.1.length : Int) then (secateurref07_Fits.j1 kj4 a1 a2 t217 (bt221.2.1 == 1) a0_0 a0_1 a0_2 a0_3 a0_4 a0_5 a0_6 a0_7 l0_8) else (some 9)) else (if (l0_8.length : Int) = (wrap64 ((bt221.1.length : Int) + 1)) then (secateurref07_Fits.j1 kj4 a1 a2 t217 (bt221.2.1 == 1) a0_0 a0_1 a0_2 a0_3 a0_4 a0_5 a0_6 a0_7 l0_8) else (some 9)))) = some r := by rw [if_pos rfl] at H; exact H
            clear H
            have H := H1
            clear H1
            replace H := Option.bind_eq_some_iff.mp H
            obtain ⟨⟨t221, t224, t225, t226⟩, A260, H⟩ := H
            replace H : (if a0_0 = 19 then (if (l0_8.length : Int) = (t221.length : Int) then (secateurref07_Fits.j1 kj4 a1 a2 t217 (t224 == 1) a0_0 a0_1 a0_2 a0_3 a0_4 a0_5 a0_6 a0_7 l0_8) else (some 9)) else (if (l0_8.length : Int) = (wrap64 ((t221.length : Int) + 1)) then (secateurref07_Fits.j1 kj4 a1 a2 t217 (t224 == 1) a0_0 a0_1 a0_2 a0_3 a0_4 a0_5 a0_6 a0_7 l0_8) else (some 9))) = some r := H
            have A26 := Aside0.mk A260
            clear A260
            by_cases c27 : a0_0 = 19
            · rw [if_pos c27] at H
              have c27b0 : (a0_0 == 19) = true := beq_iff_eq.mpr c27
              have c27b1 : (a0_0 != 19) = false := bne_eq_false_iff_eq.mpr c27
              clear c27
              (first | rw [c27b0] | (simp only [i64_w, i32_w]; rw [c27b0]) | skip)
              by_cases c28 : (l0_8.length : Int) = (t221.length : Int)
              · rw [if_pos c28] at H
                have c28b0 : ((l0_8.length : Int) == (t221.length : Int)) = true := beq_iff_eq.mpr c28
                have c28b1 : ((l0_8.length : Int) != (t221.length : Int)) = false := bne_eq_false_iff_eq.mpr c28
                have c28b2 : (l0_8.length == t221.length) = true := by first | simpa using c28 | (simp at c28 ⊢; omega)
                clear c28
                as_aux_lemma =>
                  have H' := Aside0.mk H
                  clear H
                  have hcz29_0 : wc.cell? ⟨gb216, 0, none⟩ = some (.int .i64 a0_0) := (blk_cell BK216.out 0).trans rfl
                  have hcz29_1 : wc.cell? ⟨gb216, 1, none⟩ = some (.int .i64 a0_1) := (blk_cell BK216.out 1).trans rfl
                  have hcz29_2 : wc.cell? ⟨gb216, 2, none⟩ = some (.int .i64 a0_2) := (blk_cell BK216.out 2).trans rfl
                  have hcz29_3 : wc.cell? ⟨gb216, 3, none⟩ = some (.int .i64 a0_3) := (blk_cell BK216.out 3).trans rfl
                  have hcz29_4 : wc.cell? ⟨gb216, 4, none⟩ = some (.int .i64 a0_4) := (blk_cell BK216.out 4).trans rfl
                  have hcz29_5 : wc.cell? ⟨gb216, 5, none⟩ = some (.string a0_5) := (blk_cell BK216.out 5).trans rfl
                  have hcz29_6 : wc.cell? ⟨gb216, 6, none⟩ = some (.string a0_6) := (blk_cell BK216.out 6).trans rfl
                  have hcz29_7 : wc.cell? ⟨gb216, 7, none⟩ = some (.string a0_7) := (blk_cell BK216.out 7).trans rfl
                  have hcz29_8 : wc.cell? ⟨gb216, 8, none⟩ = some (.slice A0_8 l0_8.length c0_8) := (blk_cell BK216.out 8).trans rfl
                  have hfz29_0 := blk_frozen BK216.out 0
                  have hfz29_1 := blk_frozen BK216.out 1
                  have hfz29_2 := blk_frozen BK216.out 2
                  have hfz29_3 := blk_frozen BK216.out 3
                  have hfz29_4 := blk_frozen BK216.out 4
                  have hfz29_5 := blk_frozen BK216.out 5
                  have hfz29_6 := blk_frozen BK216.out 6
                  have hfz29_7 := blk_frozen BK216.out 7
                  have hfz29_8 := blk_frozen BK216.out 8
                  go_wp2_with (first | ((with_reducible refine gate_callee (f := 47) rfl ?_); refine goesL_ (some 43) rfl rfl Tryd.func47 (by kernel_rfl) rfl #[.string a0_7] rfl (by (try simp only [List.map_toArray, List.map_cons, List.map_nil]); first | done | rfl | (simp only [List.length_drop, List.length_take]; rfl)) ?_; (with_reducible refine (secateurref06_Split.calls kj4 a0_7 t221 t224 t225 t226 _ A26.out).mono ?_); rintro e w30 ⟨v222, rfl, ho0, hb⟩; refine ⟨_, rfl, ?_⟩; have n0_ := Aside0.mk (Kd.R_lower ho0 (below_size (by repeat (first | (with_reducible first | exact HB.out | apply below_alloc | apply pw_below_drewN | apply below_drew1 | refine below_set ?_ GE216.out) | exact HB.out)))); have n1_ := Aside0.mk (blk_below (g := gb216) (o := .cells #[.int .i64 a0_0, .int .i64 a0_1, .int .i64 a0_2, .int .i64 a0_3, .int .i64 a0_4, .string a0_5, .string a0_6, .string a0_7, .slice A0_8 l0_8.length c0_8] 44 (0, 0)) (by (with_reducible repeat (first | refine blk_drewN ?_ _ | refine blk_drew ?_ | refine blk_alloc ?_ _)); exact BK216.out) hb); have n2_ := Aside0.mk (below_step (by repeat (first | (with_reducible first | exact HB.out | apply below_alloc | apply pw_below_drewN | apply below_drew1 | refine below_set ?_ GE216.out) | exact HB.out)) hb); clear BK216; clear HB; have HO223 := n0_; have BK216 := n1_; have HB := n2_; clear n0_ n1_ n2_; (try clear hb); (try clear hb2); (try clear hk); (try clear hi); (try clear ho0)) | ((with_reducible refine gate_dst (N := 10) rfl ?_); refine box_event ?hg (N := 10) ?hd (cs := #[.int .i64 0, .string (⟨#[]⟩ : ByteArray)]) (t := 75) ?hr ?_; (case hd => rfl); (case hg => rfl); (case hr => first | (go_simp; done) | (go_simp; rfl)); intro gb227 hg w31 hbox hb; have n0_ := Aside0.mk (Kd.R_below (Kd.R_elderB (by (with_reducible repeat (first | apply Kd.R_alloc | apply Kd.R_drewN | apply Kd.R_drew)); exact HO223.out) gb227 (Nat.le_of_eq hg.symm)) hb); have n1_ := Aside0.mk (blk_below (g := gb216) (o := .cells #[.int .i64 a0_0, .int .i64 a0_1, .int .i64 a0_2, .int .i64 a0_3, .int .i64 a0_4, .string a0_5, .string a0_6, .string a0_7, .slice A0_8 l0_8.length c0_8] 44 (0, 0)) (by (with_reducible repeat (first | refine blk_drewN ?_ _ | refine blk_drew ?_ | refine blk_alloc ?_ _)); exact BK216.out) hb); have n2_ := Aside0.mk (below_step (by repeat (first | (with_reducible first | exact HB.out | apply below_alloc | apply pw_below_drewN | apply below_drew1 | refine below_set ?_ GE216.out) | exact HB.out)) hb); have n3_ := Aside0.mk (hbox); have n4_ := Aside0.mk ((by rw [hg]; exact (below_size (by repeat (first | (with_reducible first | exact HB.out | apply below_alloc | apply pw_below_drewN | apply below_drew1 | refine below_set ?_ GE216.out) | exact HB.out))) : w.heap.size ≤ gb227)); have n5_ := Aside0.mk ((by rw [hg]; exact (below_size (by repeat (first | (with_reducible first | exact HB.out | apply below_alloc | apply pw_below_drewN | apply below_drew1 | refine below_set ?_ GE216.out) | exact HB.out))) : w.heap.size ≤ gb227)); have n6_ := Aside0.mk ((by rw [hg]; exact Nat.ne_of_lt (blk_lt (g := gb216) (o := .cells #[.int .i64 a0_0, .int .i64 a0_1, .int .i64 a0_2, .int .i64 a0_3, .int .i64 a0_4, .string a0_5, .string a0_6, .string a0_7, .slice A0_8 l0_8.length c0_8] 44 (0, 0)) (by (with_reducible repeat (first | refine blk_drewN ?_ _ | refine blk_drew ?_ | refine blk_alloc ?_ _)); exact BK216.out)) : gb216 ≠ gb227)); have n7_ := Aside0.mk ((by rw [hg]; exact Nat.ne_of_gt (blk_lt (g := gb216) (o := .cells #[.int .i64 a0_0, .int .i64 a0_1, .int .i64 a0_2, .int .i64 a0_3, .int .i64 a0_4, .string a0_5, .string a0_6, .string a0_7, .slice A0_8 l0_8.length c0_8] 44 (0, 0)) (by (with_reducible repeat (first | refine blk_drewN ?_ _ | refine blk_drew ?_ | refine blk_alloc ?_ _)); exact BK216.out)) : gb227 ≠ gb216)); clear HO223; clear BK216; clear HB; have HO223 := n0_; have BK216 := n1_; have HB := n2_; have BK227 := n3_; have GW227 := n4_; have GE227 := n5_; have NB216_227 := n6_; have NB227_216 := n7_; clear n0_ n1_ n2_ n3_ n4_ n5_ n6_ n7_; clear hb hbox hg; have hnb32 := NB227_216.out; have hnc32 := NB216_227.out; have hcz33_0 : w31.cell? ⟨gb227, 0, none⟩ = some (.int .i64 0) := (blk_cell BK227.out 0).trans rfl; have hcz33_1 : w31.cell? ⟨gb227, 1, none⟩ = some (.string (⟨#[]⟩ : ByteArray)) := (blk_cell BK227.out 1).trans rfl; have hfz33_0 := blk_frozen BK227.out 0; have hfz33_1 := blk_frozen BK227.out 1; obtain ⟨Ao34, co34, eo34⟩ := Kd.R_slice HO223.out; subst eo34; have hcz35_0 : w31.cell? ⟨gb216, 0, none⟩ = some (.int .i64 a0_0) := (blk_cell BK216.out 0).trans rfl; have hcz35_1 : w31.cell? ⟨gb216, 1, none⟩ = some (.int .i64 a0_1) := (blk_cell BK216.out 1).trans rfl; have hcz35_2 : w31.cell? ⟨gb216, 2, none⟩ = some (.int .i64 a0_2) := (blk_cell BK216.out 2).trans rfl; have hcz35_3 : w31.cell? ⟨gb216, 3, none⟩ = some (.int .i64 a0_3) := (blk_cell BK216.out 3).trans rfl; have hcz35_4 : w31.cell? ⟨gb216, 4, none⟩ = some (.int .i64 a0_4) := (blk_cell BK216.out 4).trans rfl; have hcz35_5 : w31.cell? ⟨gb216, 5, none⟩ = some (.string a0_5) := (blk_cell BK216.out 5).trans rfl; have hcz35_6 : w31.cell? ⟨gb216, 6, none⟩ = some (.string a0_6) := (blk_cell BK216.out 6).trans rfl; have hcz35_7 : w31.cell? ⟨gb216, 7, none⟩ = some (.string a0_7) := (blk_cell BK216.out 7).trans rfl; have hcz35_8 : w31.cell? ⟨gb216, 8, none⟩ = some (.slice A0_8 l0_8.length c0_8) := (blk_cell BK216.out 8).trans rfl; have hfz35_0 := blk_frozen BK216.out 0; have hfz35_1 := blk_frozen BK216.out 1; have hfz35_2 := blk_frozen BK216.out 2; have hfz35_3 := blk_frozen BK216.out 3; have hfz35_4 := blk_frozen BK216.out 4; have hfz35_5 := blk_frozen BK216.out 5; have hfz35_6 := blk_frozen BK216.out 6; have hfz35_7 := blk_frozen BK216.out 7; have hfz35_8 := blk_frozen BK216.out 8))
                  go_meet
                  case rel => exact ⟨_, ((t224 == 1)), (by first | rfl | (simp; done) | (simp [*]; done)), H', ⟨by have := HJ4.out; first | omega | exact Nat.le_refl _⟩, ⟨by (with_reducible repeat (first | refine blk_drewN ?_ _ | refine blk_drew ?_ | refine blk_alloc ?_ _)); refine blk_far ?_ NB216_227.out _; (with_reducible repeat (first | refine blk_drewN ?_ _ | refine blk_drew ?_ | refine blk_alloc ?_ _)); refine blk_far ?_ NB216_227.out _; (with_reducible repeat (first | refine blk_drewN ?_ _ | refine blk_drew ?_ | refine blk_alloc ?_ _)); exact BK216.out⟩, ⟨by repeat (first | (with_reducible first | exact HB.out | apply below_alloc | apply pw_below_drewN | apply below_drew1 | refine below_set ?_ GE216.out | refine below_set ?_ GE227.out) | exact HB.out)⟩⟩
              · rw [if_neg c28] at H
                have c28b0 : ((l0_8.length : Int) == (t221.length : Int)) = false := beq_eq_false_iff_ne.mpr c28
                have c28b1 : ((l0_8.length : Int) != (t221.length : Int)) = true := bne_iff_ne.mpr c28
                have c28b2 : (l0_8.length == t221.length) = false := by first | simpa using c28 | (simp at c28 ⊢; omega)
                as_aux_lemma =>
                  obtain rfl := Option.some.inj H
                  simp only [Option.some.injEq, Prod.mk.injEq] at H
                  obtain ⟨rfl⟩ := H
                  have hcz36_0 : wc.cell? ⟨gb216, 0, none⟩ = some (.int .i64 a0_0) := (blk_cell BK216.out 0).trans rfl
                  have hcz36_1 : wc.cell? ⟨gb216, 1, none⟩ = some (.int .i64 a0_1) := (blk_cell BK216.out 1).trans rfl
                  have hcz36_2 : wc.cell? ⟨gb216, 2, none⟩ = some (.int .i64 a0_2) := (blk_cell BK216.out 2).trans rfl
                  have hcz36_3 : wc.cell? ⟨gb216, 3, none⟩ = some (.int .i64 a0_3) := (blk_cell BK216.out 3).trans rfl
                  have hcz36_4 : wc.cell? ⟨gb216, 4, none⟩ = some (.int .i64 a0_4) := (blk_cell BK216.out 4).trans rfl
                  have hcz36_5 : wc.cell? ⟨gb216, 5, none⟩ = some (.string a0_5) := (blk_cell BK216.out 5).trans rfl
                  have hcz36_6 : wc.cell? ⟨gb216, 6, none⟩ = some (.string a0_6) := (blk_cell BK216.out 6).trans rfl
                  have hcz36_7 : wc.cell? ⟨gb216, 7, none⟩ = some (.string a0_7) := (blk_cell BK216.out 7).trans rfl
                  have hcz36_8 : wc.cell? ⟨gb216, 8, none⟩ = some (.slice A0_8 l0_8.length c0_8) := (blk_cell BK216.out 8).trans rfl
                  have hfz36_0 := blk_frozen BK216.out 0
                  have hfz36_1 := blk_frozen BK216.out 1
                  have hfz36_2 := blk_frozen BK216.out 2
                  have hfz36_3 := blk_frozen BK216.out 3
                  have hfz36_4 := blk_frozen BK216.out 4
                  have hfz36_5 := blk_frozen BK216.out 5
                  have hfz36_6 := blk_frozen BK216.out 6
                  have hfz36_7 := blk_frozen BK216.out 7
                  have hfz36_8 := blk_frozen BK216.out 8
                  go_wp2_with (first | ((with_reducible refine gate_callee (f := 47) rfl ?_); refine goesL_ (some 43) rfl rfl Tryd.func47 (by kernel_rfl) rfl #[.string a0_7] rfl (by (try simp only [List.map_toArray, List.map_cons, List.map_nil]); first | done | rfl | (simp only [List.length_drop, List.length_take]; rfl)) ?_; (with_reducible refine (secateurref06_Split.calls kj4 a0_7 t221 t224 t225 t226 _ A26.out).mono ?_); rintro e w37 ⟨v222, rfl, ho0, hb⟩; refine ⟨_, rfl, ?_⟩; have n0_ := Aside0.mk (Kd.R_lower ho0 (below_size (by repeat (first | (with_reducible first | exact HB.out | apply below_alloc | apply pw_below_drewN | apply below_drew1 | refine below_set ?_ GE216.out) | exact HB.out)))); have n1_ := Aside0.mk (blk_below (g := gb216) (o := .cells #[.int .i64 a0_0, .int .i64 a0_1, .int .i64 a0_2, .int .i64 a0_3, .int .i64 a0_4, .string a0_5, .string a0_6, .string a0_7, .slice A0_8 l0_8.length c0_8] 44 (0, 0)) (by (with_reducible repeat (first | refine blk_drewN ?_ _ | refine blk_drew ?_ | refine blk_alloc ?_ _)); exact BK216.out) hb); have n2_ := Aside0.mk (below_step (by repeat (first | (with_reducible first | exact HB.out | apply below_alloc | apply pw_below_drewN | apply below_drew1 | refine below_set ?_ GE216.out) | exact HB.out)) hb); clear BK216; clear HB; have HO223 := n0_; have BK216 := n1_; have HB := n2_; clear n0_ n1_ n2_; (try clear hb); (try clear hb2); (try clear hk); (try clear hi); (try clear ho0)) | ((with_reducible refine gate_dst (N := 10) rfl ?_); refine box_event ?hg (N := 10) ?hd (cs := #[.int .i64 0, .string (⟨#[]⟩ : ByteArray)]) (t := 75) ?hr ?_; (case hd => rfl); (case hg => rfl); (case hr => first | (go_simp; done) | (go_simp; rfl)); intro gb227 hg w38 hbox hb; have n0_ := Aside0.mk (Kd.R_below (Kd.R_elderB (by (with_reducible repeat (first | apply Kd.R_alloc | apply Kd.R_drewN | apply Kd.R_drew)); exact HO223.out) gb227 (Nat.le_of_eq hg.symm)) hb); have n1_ := Aside0.mk (blk_below (g := gb216) (o := .cells #[.int .i64 a0_0, .int .i64 a0_1, .int .i64 a0_2, .int .i64 a0_3, .int .i64 a0_4, .string a0_5, .string a0_6, .string a0_7, .slice A0_8 l0_8.length c0_8] 44 (0, 0)) (by (with_reducible repeat (first | refine blk_drewN ?_ _ | refine blk_drew ?_ | refine blk_alloc ?_ _)); exact BK216.out) hb); have n2_ := Aside0.mk (below_step (by repeat (first | (with_reducible first | exact HB.out | apply below_alloc | apply pw_below_drewN | apply below_drew1 | refine below_set ?_ GE216.out) | exact HB.out)) hb); have n3_ := Aside0.mk (hbox); have n4_ := Aside0.mk ((by rw [hg]; exact (below_size (by repeat (first | (with_reducible first | exact HB.out | apply below_alloc | apply pw_below_drewN | apply below_drew1 | refine below_set ?_ GE216.out) | exact HB.out))) : w.heap.size ≤ gb227)); have n5_ := Aside0.mk ((by rw [hg]; exact (below_size (by repeat (first | (with_reducible first | exact HB.out | apply below_alloc | apply pw_below_drewN | apply below_drew1 | refine below_set ?_ GE216.out) | exact HB.out))) : w.heap.size ≤ gb227)); have n6_ := Aside0.mk ((by rw [hg]; exact Nat.ne_of_lt (blk_lt (g := gb216) (o := .cells #[.int .i64 a0_0, .int .i64 a0_1, .int .i64 a0_2, .int .i64 a0_3, .int .i64 a0_4, .string a0_5, .string a0_6, .string a0_7, .slice A0_8 l0_8.length c0_8] 44 (0, 0)) (by (with_reducible repeat (first | refine blk_drewN ?_ _ | refine blk_drew ?_ | refine blk_alloc ?_ _)); exact BK216.out)) : gb216 ≠ gb227)); have n7_ := Aside0.mk ((by rw [hg]; exact Nat.ne_of_gt (blk_lt (g := gb216) (o := .cells #[.int .i64 a0_0, .int .i64 a0_1, .int .i64 a0_2, .int .i64 a0_3, .int .i64 a0_4, .string a0_5, .string a0_6, .string a0_7, .slice A0_8 l0_8.length c0_8] 44 (0, 0)) (by (with_reducible repeat (first | refine blk_drewN ?_ _ | refine blk_drew ?_ | refine blk_alloc ?_ _)); exact BK216.out)) : gb227 ≠ gb216)); clear HO223; clear BK216; clear HB; have HO223 := n0_; have BK216 := n1_; have HB := n2_; have BK227 := n3_; have GW227 := n4_; have GE227 := n5_; have NB216_227 := n6_; have NB227_216 := n7_; clear n0_ n1_ n2_ n3_ n4_ n5_ n6_ n7_; clear hb hbox hg; have hnb39 := NB227_216.out; have hnc39 := NB216_227.out; have hcz40_0 : w38.cell? ⟨gb227, 0, none⟩ = some (.int .i64 0) := (blk_cell BK227.out 0).trans rfl; have hcz40_1 : w38.cell? ⟨gb227, 1, none⟩ = some (.string (⟨#[]⟩ : ByteArray)) := (blk_cell BK227.out 1).trans rfl; have hfz40_0 := blk_frozen BK227.out 0; have hfz40_1 := blk_frozen BK227.out 1; obtain ⟨Ao41, co41, eo41⟩ := Kd.R_slice HO223.out; subst eo41; have hcz42_0 : w38.cell? ⟨gb216, 0, none⟩ = some (.int .i64 a0_0) := (blk_cell BK216.out 0).trans rfl; have hcz42_1 : w38.cell? ⟨gb216, 1, none⟩ = some (.int .i64 a0_1) := (blk_cell BK216.out 1).trans rfl; have hcz42_2 : w38.cell? ⟨gb216, 2, none⟩ = some (.int .i64 a0_2) := (blk_cell BK216.out 2).trans rfl; have hcz42_3 : w38.cell? ⟨gb216, 3, none⟩ = some (.int .i64 a0_3) := (blk_cell BK216.out 3).trans rfl; have hcz42_4 : w38.cell? ⟨gb216, 4, none⟩ = some (.int .i64 a0_4) := (blk_cell BK216.out 4).trans rfl; have hcz42_5 : w38.cell? ⟨gb216, 5, none⟩ = some (.string a0_5) := (blk_cell BK216.out 5).trans rfl; have hcz42_6 : w38.cell? ⟨gb216, 6, none⟩ = some (.string a0_6) := (blk_cell BK216.out 6).trans rfl; have hcz42_7 : w38.cell? ⟨gb216, 7, none⟩ = some (.string a0_7) := (blk_cell BK216.out 7).trans rfl; have hcz42_8 : w38.cell? ⟨gb216, 8, none⟩ = some (.slice A0_8 l0_8.length c0_8) := (blk_cell BK216.out 8).trans rfl; have hfz42_0 := blk_frozen BK216.out 0; have hfz42_1 := blk_frozen BK216.out 1; have hfz42_2 := blk_frozen BK216.out 2; have hfz42_3 := blk_frozen BK216.out 3; have hfz42_4 := blk_frozen BK216.out 4; have hfz42_5 := blk_frozen BK216.out 5; have hfz42_6 := blk_frozen BK216.out 6; have hfz42_7 := blk_frozen BK216.out 7; have hfz42_8 := blk_frozen BK216.out 8))
                  go_ret
                  exact ⟨by first | rfl | (simp [errW_none, errW_some] <;> rfl) | (simp [*, errW_none, errW_some] <;> rfl), by repeat (first | (with_reducible first | exact HB.out | apply below_alloc | apply pw_below_drewN | apply below_drew1 | refine below_set ?_ GE216.out | refine below_set ?_ GE227.out) | exact HB.out)⟩
            · rw [if_neg c27] at H
              have c27b0 : (a0_0 == 19) = false := beq_eq_false_iff_ne.mpr c27
              have c27b1 : (a0_0 != 19) = true := bne_iff_ne.mpr c27
              (first | rw [c27b0] | (simp only [i64_w, i32_w]; rw [c27b0]) | skip)
              by_cases c43 : (l0_8.length : Int) = (wrap64 ((t221.length : Int) + 1))
              · rw [if_pos c43] at H
                have c43b0 : ((l0_8.length : Int) == (wrap64 ((t221.length : Int) + 1))) = true := beq_iff_eq.mpr c43
                have c43b1 : ((l0_8.length : Int) != (wrap64 ((t221.length : Int) + 1))) = false := bne_eq_false_iff_eq.mpr c43
                clear c43
                as_aux_lemma =>
                  have H' := Aside0.mk H
                  clear H
                  have hcz44_0 : wc.cell? ⟨gb216, 0, none⟩ = some (.int .i64 a0_0) := (blk_cell BK216.out 0).trans rfl
                  have hcz44_1 : wc.cell? ⟨gb216, 1, none⟩ = some (.int .i64 a0_1) := (blk_cell BK216.out 1).trans rfl
                  have hcz44_2 : wc.cell? ⟨gb216, 2, none⟩ = some (.int .i64 a0_2) := (blk_cell BK216.out 2).trans rfl
                  have hcz44_3 : wc.cell? ⟨gb216, 3, none⟩ = some (.int .i64 a0_3) := (blk_cell BK216.out 3).trans rfl
                  have hcz44_4 : wc.cell? ⟨gb216, 4, none⟩ = some (.int .i64 a0_4) := (blk_cell BK216.out 4).trans rfl
                  have hcz44_5 : wc.cell? ⟨gb216, 5, none⟩ = some (.string a0_5) := (blk_cell BK216.out 5).trans rfl
                  have hcz44_6 : wc.cell? ⟨gb216, 6, none⟩ = some (.string a0_6) := (blk_cell BK216.out 6).trans rfl
                  have hcz44_7 : wc.cell? ⟨gb216, 7, none⟩ = some (.string a0_7) := (blk_cell BK216.out 7).trans rfl
                  have hcz44_8 : wc.cell? ⟨gb216, 8, none⟩ = some (.slice A0_8 l0_8.length c0_8) := (blk_cell BK216.out 8).trans rfl
                  have hfz44_0 := blk_frozen BK216.out 0
                  have hfz44_1 := blk_frozen BK216.out 1
                  have hfz44_2 := blk_frozen BK216.out 2
                  have hfz44_3 := blk_frozen BK216.out 3
                  have hfz44_4 := blk_frozen BK216.out 4
                  have hfz44_5 := blk_frozen BK216.out 5
                  have hfz44_6 := blk_frozen BK216.out 6
                  have hfz44_7 := blk_frozen BK216.out 7
                  have hfz44_8 := blk_frozen BK216.out 8
                  go_wp2_with (first | ((with_reducible refine gate_callee (f := 47) rfl ?_); refine goesL_ (some 43) rfl rfl Tryd.func47 (by kernel_rfl) rfl #[.string a0_7] rfl (by (try simp only [List.map_toArray, List.map_cons, List.map_nil]); first | done | rfl | (simp only [List.length_drop, List.length_take]; rfl)) ?_; (with_reducible refine (secateurref06_Split.calls kj4 a0_7 t221 t224 t225 t226 _ A26.out).mono ?_); rintro e w45 ⟨v222, rfl, ho0, hb⟩; refine ⟨_, rfl, ?_⟩; have n0_ := Aside0.mk (Kd.R_lower ho0 (below_size (by repeat (first | (with_reducible first | exact HB.out | apply below_alloc | apply pw_below_drewN | apply below_drew1 | refine below_set ?_ GE216.out) | exact HB.out)))); have n1_ := Aside0.mk (blk_below (g := gb216) (o := .cells #[.int .i64 a0_0, .int .i64 a0_1, .int .i64 a0_2, .int .i64 a0_3, .int .i64 a0_4, .string a0_5, .string a0_6, .string a0_7, .slice A0_8 l0_8.length c0_8] 44 (0, 0)) (by (with_reducible repeat (first | refine blk_drewN ?_ _ | refine blk_drew ?_ | refine blk_alloc ?_ _)); exact BK216.out) hb); have n2_ := Aside0.mk (below_step (by repeat (first | (with_reducible first | exact HB.out | apply below_alloc | apply pw_below_drewN | apply below_drew1 | refine below_set ?_ GE216.out) | exact HB.out)) hb); clear BK216; clear HB; have HO223 := n0_; have BK216 := n1_; have HB := n2_; clear n0_ n1_ n2_; (try clear hb); (try clear hb2); (try clear hk); (try clear hi); (try clear ho0)) | ((with_reducible refine gate_dst (N := 10) rfl ?_); refine box_event ?hg (N := 10) ?hd (cs := #[.int .i64 0, .string (⟨#[]⟩ : ByteArray)]) (t := 75) ?hr ?_; (case hd => rfl); (case hg => rfl); (case hr => first | (go_simp; done) | (go_simp; rfl)); intro gb227 hg w46 hbox hb; have n0_ := Aside0.mk (Kd.R_below (Kd.R_elderB (by (with_reducible repeat (first | apply Kd.R_alloc | apply Kd.R_drewN | apply Kd.R_drew)); exact HO223.out) gb227 (Nat.le_of_eq hg.symm)) hb); have n1_ := Aside0.mk (blk_below (g := gb216) (o := .cells #[.int .i64 a0_0, .int .i64 a0_1, .int .i64 a0_2, .int .i64 a0_3, .int .i64 a0_4, .string a0_5, .string a0_6, .string a0_7, .slice A0_8 l0_8.length c0_8] 44 (0, 0)) (by (with_reducible repeat (first | refine blk_drewN ?_ _ | refine blk_drew ?_ | refine blk_alloc ?_ _)); exact BK216.out) hb); have n2_ := Aside0.mk (below_step (by repeat (first | (with_reducible first | exact HB.out | apply below_alloc | apply pw_below_drewN | apply below_drew1 | refine below_set ?_ GE216.out) | exact HB.out)) hb); have n3_ := Aside0.mk (hbox); have n4_ := Aside0.mk ((by rw [hg]; exact (below_size (by repeat (first | (with_reducible first | exact HB.out | apply below_alloc | apply pw_below_drewN | apply below_drew1 | refine below_set ?_ GE216.out) | exact HB.out))) : w.heap.size ≤ gb227)); have n5_ := Aside0.mk ((by rw [hg]; exact (below_size (by repeat (first | (with_reducible first | exact HB.out | apply below_alloc | apply pw_below_drewN | apply below_drew1 | refine below_set ?_ GE216.out) | exact HB.out))) : w.heap.size ≤ gb227)); have n6_ := Aside0.mk ((by rw [hg]; exact Nat.ne_of_lt (blk_lt (g := gb216) (o := .cells #[.int .i64 a0_0, .int .i64 a0_1, .int .i64 a0_2, .int .i64 a0_3, .int .i64 a0_4, .string a0_5, .string a0_6, .string a0_7, .slice A0_8 l0_8.length c0_8] 44 (0, 0)) (by (with_reducible repeat (first | refine blk_drewN ?_ _ | refine blk_drew ?_ | refine blk_alloc ?_ _)); exact BK216.out)) : gb216 ≠ gb227)); have n7_ := Aside0.mk ((by rw [hg]; exact Nat.ne_of_gt (blk_lt (g := gb216) (o := .cells #[.int .i64 a0_0, .int .i64 a0_1, .int .i64 a0_2, .int .i64 a0_3, .int .i64 a0_4, .string a0_5, .string a0_6, .string a0_7, .slice A0_8 l0_8.length c0_8] 44 (0, 0)) (by (with_reducible repeat (first | refine blk_drewN ?_ _ | refine blk_drew ?_ | refine blk_alloc ?_ _)); exact BK216.out)) : gb227 ≠ gb216)); clear HO223; clear BK216; clear HB; have HO223 := n0_; have BK216 := n1_; have HB := n2_; have BK227 := n3_; have GW227 := n4_; have GE227 := n5_; have NB216_227 := n6_; have NB227_216 := n7_; clear n0_ n1_ n2_ n3_ n4_ n5_ n6_ n7_; clear hb hbox hg; have hnb47 := NB227_216.out; have hnc47 := NB216_227.out; have hcz48_0 : w46.cell? ⟨gb227, 0, none⟩ = some (.int .i64 0) := (blk_cell BK227.out 0).trans rfl; have hcz48_1 : w46.cell? ⟨gb227, 1, none⟩ = some (.string (⟨#[]⟩ : ByteArray)) := (blk_cell BK227.out 1).trans rfl; have hfz48_0 := blk_frozen BK227.out 0; have hfz48_1 := blk_frozen BK227.out 1; obtain ⟨Ao49, co49, eo49⟩ := Kd.R_slice HO223.out; subst eo49; have hcz50_0 : w46.cell? ⟨gb216, 0, none⟩ = some (.int .i64 a0_0) := (blk_cell BK216.out 0).trans rfl; have hcz50_1 : w46.cell? ⟨gb216, 1, none⟩ = some (.int .i64 a0_1) := (blk_cell BK216.out 1).trans rfl; have hcz50_2 : w46.cell? ⟨gb216, 2, none⟩ = some (.int .i64 a0_2) := (blk_cell BK216.out 2).trans rfl; have hcz50_3 : w46.cell? ⟨gb216, 3, none⟩ = some (.int .i64 a0_3) := (blk_cell BK216.out 3).trans rfl; have hcz50_4 : w46.cell? ⟨gb216, 4, none⟩ = some (.int .i64 a0_4) := (blk_cell BK216.out 4).trans rfl; have hcz50_5 : w46.cell? ⟨gb216, 5, none⟩ = some (.string a0_5) := (blk_cell BK216.out 5).trans rfl; have hcz50_6 : w46.cell? ⟨gb216, 6, none⟩ = some (.string a0_6) := (blk_cell BK216.out 6).trans rfl; have hcz50_7 : w46.cell? ⟨gb216, 7, none⟩ = some (.string a0_7) := (blk_cell BK216.out 7).trans rfl; have hcz50_8 : w46.cell? ⟨gb216, 8, none⟩ = some (.slice A0_8 l0_8.length c0_8) := (blk_cell BK216.out 8).trans rfl; have hfz50_0 := blk_frozen BK216.out 0; have hfz50_1 := blk_frozen BK216.out 1; have hfz50_2 := blk_frozen BK216.out 2; have hfz50_3 := blk_frozen BK216.out 3; have hfz50_4 := blk_frozen BK216.out 4; have hfz50_5 := blk_frozen BK216.out 5; have hfz50_6 := blk_frozen BK216.out 6; have hfz50_7 := blk_frozen BK216.out 7; have hfz50_8 := blk_frozen BK216.out 8))
                  go_meet
                  case rel => exact ⟨_, ((t224 == 1)), (by first | rfl | (simp; done) | (simp [*]; done)), H', ⟨by have := HJ4.out; first | omega | exact Nat.le_refl _⟩, ⟨by (with_reducible repeat (first | refine blk_drewN ?_ _ | refine blk_drew ?_ | refine blk_alloc ?_ _)); refine blk_far ?_ NB216_227.out _; (with_reducible repeat (first | refine blk_drewN ?_ _ | refine blk_drew ?_ | refine blk_alloc ?_ _)); refine blk_far ?_ NB216_227.out _; (with_reducible repeat (first | refine blk_drewN ?_ _ | refine blk_drew ?_ | refine blk_alloc ?_ _)); exact BK216.out⟩, ⟨by repeat (first | (with_reducible first | exact HB.out | apply below_alloc | apply pw_below_drewN | apply below_drew1 | refine below_set ?_ GE216.out | refine below_set ?_ GE227.out) | exact HB.out)⟩⟩
              · rw [if_neg c43] at H
                have c43b0 : ((l0_8.length : Int) == (wrap64 ((t221.length : Int) + 1))) = false := beq_eq_false_iff_ne.mpr c43
                have c43b1 : ((l0_8.length : Int) != (wrap64 ((t221.length : Int) + 1))) = true := bne_iff_ne.mpr c43
                as_aux_lemma =>
                  obtain rfl := Option.some.inj H
                  simp only [Option.some.injEq, Prod.mk.injEq] at H
                  obtain ⟨rfl⟩ := H
                  have hcz51_0 : wc.cell? ⟨gb216, 0, none⟩ = some (.int .i64 a0_0) := (blk_cell BK216.out 0).trans rfl
                  have hcz51_1 : wc.cell? ⟨gb216, 1, none⟩ = some (.int .i64 a0_1) := (blk_cell BK216.out 1).trans rfl
                  have hcz51_2 : wc.cell? ⟨gb216, 2, none⟩ = some (.int .i64 a0_2) := (blk_cell BK216.out 2).trans rfl
                  have hcz51_3 : wc.cell? ⟨gb216, 3, none⟩ = some (.int .i64 a0_3) := (blk_cell BK216.out 3).trans rfl
                  have hcz51_4 : wc.cell? ⟨gb216, 4, none⟩ = some (.int .i64 a0_4) := (blk_cell BK216.out 4).trans rfl
                  have hcz51_5 : wc.cell? ⟨gb216, 5, none⟩ = some (.string a0_5) := (blk_cell BK216.out 5).trans rfl
                  have hcz51_6 : wc.cell? ⟨gb216, 6, none⟩ = some (.string a0_6) := (blk_cell BK216.out 6).trans rfl
                  have hcz51_7 : wc.cell? ⟨gb216, 7, none⟩ = some (.string a0_7) := (blk_cell BK216.out 7).trans rfl
                  have hcz51_8 : wc.cell? ⟨gb216, 8, none⟩ = some (.slice A0_8 l0_8.length c0_8) := (blk_cell BK216.out 8).trans rfl
                  have hfz51_0 := blk_frozen BK216.out 0
                  have hfz51_1 := blk_frozen BK216.out 1
                  have hfz51_2 := blk_frozen BK216.out 2
                  have hfz51_3 := blk_frozen BK216.out 3
                  have hfz51_4 := blk_frozen BK216.out 4
                  have hfz51_5 := blk_frozen BK216.out 5
                  have hfz51_6 := blk_frozen BK216.out 6
                  have hfz51_7 := blk_frozen BK216.out 7
                  have hfz51_8 := blk_frozen BK216.out 8
                  go_wp2_with (first | ((with_reducible refine gate_callee (f := 47) rfl ?_); refine goesL_ (some 43) rfl rfl Tryd.func47 (by kernel_rfl) rfl #[.string a0_7] rfl (by (try simp only [List.map_toArray, List.map_cons, List.map_nil]); first | done | rfl | (simp only [List.length_drop, List.length_take]; rfl)) ?_; (with_reducible refine (secateurref06_Split.calls kj4 a0_7 t221 t224 t225 t226 _ A26.out).mono ?_); rintro e w52 ⟨v222, rfl, ho0, hb⟩; refine ⟨_, rfl, ?_⟩; have n0_ := Aside0.mk (Kd.R_lower ho0 (below_size (by repeat (first | (with_reducible first | exact HB.out | apply below_alloc | apply pw_below_drewN | apply below_drew1 | refine below_set ?_ GE216.out) | exact HB.out)))); have n1_ := Aside0.mk (blk_below (g := gb216) (o := .cells #[.int .i64 a0_0, .int .i64 a0_1, .int .i64 a0_2, .int .i64 a0_3, .int .i64 a0_4, .string a0_5, .string a0_6, .string a0_7, .slice A0_8 l0_8.length c0_8] 44 (0, 0)) (by (with_reducible repeat (first | refine blk_drewN ?_ _ | refine blk_drew ?_ | refine blk_alloc ?_ _)); exact BK216.out) hb); have n2_ := Aside0.mk (below_step (by repeat (first | (with_reducible first | exact HB.out | apply below_alloc | apply pw_below_drewN | apply below_drew1 | refine below_set ?_ GE216.out) | exact HB.out)) hb); clear BK216; clear HB; have HO223 := n0_; have BK216 := n1_; have HB := n2_; clear n0_ n1_ n2_; (try clear hb); (try clear hb2); (try clear hk); (try clear hi); (try clear ho0)) | ((with_reducible refine gate_dst (N := 10) rfl ?_); refine box_event ?hg (N := 10) ?hd (cs := #[.int .i64 0, .string (⟨#[]⟩ : ByteArray)]) (t := 75) ?hr ?_; (case hd => rfl); (case hg => rfl); (case hr => first | (go_simp; done) | (go_simp; rfl)); intro gb227 hg w53 hbox hb; have n0_ := Aside0.mk (Kd.R_below (Kd.R_elderB (by (with_reducible repeat (first | apply Kd.R_alloc | apply Kd.R_drewN | apply Kd.R_drew)); exact HO223.out) gb227 (Nat.le_of_eq hg.symm)) hb); have n1_ := Aside0.mk (blk_below (g := gb216) (o := .cells #[.int .i64 a0_0, .int .i64 a0_1, .int .i64 a0_2, .int .i64 a0_3, .int .i64 a0_4, .string a0_5, .string a0_6, .string a0_7, .slice A0_8 l0_8.length c0_8] 44 (0, 0)) (by (with_reducible repeat (first | refine blk_drewN ?_ _ | refine blk_drew ?_ | refine blk_alloc ?_ _)); exact BK216.out) hb); have n2_ := Aside0.mk (below_step (by repeat (first | (with_reducible first | exact HB.out | apply below_alloc | apply pw_below_drewN | apply below_drew1 | refine below_set ?_ GE216.out) | exact HB.out)) hb); have n3_ := Aside0.mk (hbox); have n4_ := Aside0.mk ((by rw [hg]; exact (below_size (by repeat (first | (with_reducible first | exact HB.out | apply below_alloc | apply pw_below_drewN | apply below_drew1 | refine below_set ?_ GE216.out) | exact HB.out))) : w.heap.size ≤ gb227)); have n5_ := Aside0.mk ((by rw [hg]; exact (below_size (by repeat (first | (with_reducible first | exact HB.out | apply below_alloc | apply pw_below_drewN | apply below_drew1 | refine below_set ?_ GE216.out) | exact HB.out))) : w.heap.size ≤ gb227)); have n6_ := Aside0.mk ((by rw [hg]; exact Nat.ne_of_lt (blk_lt (g := gb216) (o := .cells #[.int .i64 a0_0, .int .i64 a0_1, .int .i64 a0_2, .int .i64 a0_3, .int .i64 a0_4, .string a0_5, .string a0_6, .string a0_7, .slice A0_8 l0_8.length c0_8] 44 (0, 0)) (by (with_reducible repeat (first | refine blk_drewN ?_ _ | refine blk_drew ?_ | refine blk_alloc ?_ _)); exact BK216.out)) : gb216 ≠ gb227)); have n7_ := Aside0.mk ((by rw [hg]; exact Nat.ne_of_gt (blk_lt (g := gb216) (o := .cells #[.int .i64 a0_0, .int .i64 a0_1, .int .i64 a0_2, .int .i64 a0_3, .int .i64 a0_4, .string a0_5, .string a0_6, .string a0_7, .slice A0_8 l0_8.length c0_8] 44 (0, 0)) (by (with_reducible repeat (first | refine blk_drewN ?_ _ | refine blk_drew ?_ | refine blk_alloc ?_ _)); exact BK216.out)) : gb227 ≠ gb216)); clear HO223; clear BK216; clear HB; have HO223 := n0_; have BK216 := n1_; have HB := n2_; have BK227 := n3_; have GW227 := n4_; have GE227 := n5_; have NB216_227 := n6_; have NB227_216 := n7_; clear n0_ n1_ n2_ n3_ n4_ n5_ n6_ n7_; clear hb hbox hg; have hnb54 := NB227_216.out; have hnc54 := NB216_227.out; have hcz55_0 : w53.cell? ⟨gb227, 0, none⟩ = some (.int .i64 0) := (blk_cell BK227.out 0).trans rfl; have hcz55_1 : w53.cell? ⟨gb227, 1, none⟩ = some (.string (⟨#[]⟩ : ByteArray)) := (blk_cell BK227.out 1).trans rfl; have hfz55_0 := blk_frozen BK227.out 0; have hfz55_1 := blk_frozen BK227.out 1; obtain ⟨Ao56, co56, eo56⟩ := Kd.R_slice HO223.out; subst eo56; have hcz57_0 : w53.cell? ⟨gb216, 0, none⟩ = some (.int .i64 a0_0) := (blk_cell BK216.out 0).trans rfl; have hcz57_1 : w53.cell? ⟨gb216, 1, none⟩ = some (.int .i64 a0_1) := (blk_cell BK216.out 1).trans rfl; have hcz57_2 : w53.cell? ⟨gb216, 2, none⟩ = some (.int .i64 a0_2) := (blk_cell BK216.out 2).trans rfl; have hcz57_3 : w53.cell? ⟨gb216, 3, none⟩ = some (.int .i64 a0_3) := (blk_cell BK216.out 3).trans rfl; have hcz57_4 : w53.cell? ⟨gb216, 4, none⟩ = some (.int .i64 a0_4) := (blk_cell BK216.out 4).trans rfl; have hcz57_5 : w53.cell? ⟨gb216, 5, none⟩ = some (.string a0_5) := (blk_cell BK216.out 5).trans rfl; have hcz57_6 : w53.cell? ⟨gb216, 6, none⟩ = some (.string a0_6) := (blk_cell BK216.out 6).trans rfl; have hcz57_7 : w53.cell? ⟨gb216, 7, none⟩ = some (.string a0_7) := (blk_cell BK216.out 7).trans rfl; have hcz57_8 : w53.cell? ⟨gb216, 8, none⟩ = some (.slice A0_8 l0_8.length c0_8) := (blk_cell BK216.out 8).trans rfl; have hfz57_0 := blk_frozen BK216.out 0; have hfz57_1 := blk_frozen BK216.out 1; have hfz57_2 := blk_frozen BK216.out 2; have hfz57_3 := blk_frozen BK216.out 3; have hfz57_4 := blk_frozen BK216.out 4; have hfz57_5 := blk_frozen BK216.out 5; have hfz57_6 := blk_frozen BK216.out 6; have hfz57_7 := blk_frozen BK216.out 7; have hfz57_8 := blk_frozen BK216.out 8))
                  go_ret
                  exact ⟨by first | rfl | (simp [errW_none, errW_some] <;> rfl) | (simp [*, errW_none, errW_some] <;> rfl), by repeat (first | (with_reducible first | exact HB.out | apply below_alloc | apply pw_below_drewN | apply below_drew1 | refine below_set ?_ GE216.out | refine below_set ?_ GE227.out) | exact HB.out)⟩
          · replace c25 := Bool.eq_false_iff.mpr c25
            subst c25
            have H1 : (secateurref07_Fits.j1 kj4 a1 a2 t217 false a0_0 a0_1 a0_2 a0_3 a0_4 a0_5 a0_6 a0_7 l0_8) = some r := by rw [if_neg (show ¬ (false = true) by decide)] at H; exact H
            clear H
            have H := H1
            clear H1
            as_aux_lemma =>
              have H' := Aside0.mk H
              clear H
              go_wp2
              go_meet
              case rel => exact ⟨_, (false), (by first | rfl | (simp; done) | (simp [*]; done)), H', ⟨by have := HJ4.out; first | omega | exact Nat.le_refl _⟩, ⟨by (with_reducible repeat (first | refine blk_drewN ?_ _ | refine blk_drew ?_ | refine blk_alloc ?_ _)); exact BK216.out⟩, ⟨by repeat (first | (with_reducible first | exact HB.out | apply below_alloc | apply pw_below_drewN | apply below_drew1 | refine below_set ?_ GE216.out) | exact HB.out)⟩⟩
        case rest =>
          clear HC23
          try clear c1
          try clear c2
          try clear p2
          try clear c3
          try clear c4
          try clear c5
          try clear p6
          try clear c8
          try clear c8b0
          try clear c10
          try clear c10b0
          try clear c13
          try clear c17
          try clear c19
          try clear c21
          try clear c24
          try clear c25
          try clear c27
          try clear c27b0
          try clear c27b1
          try clear c28
          try clear c28b0
          try clear c28b1
          try clear c28b2
          try clear c32
          try clear c39
          try clear c43
          try clear c43b0
          try clear c43b1
          try clear c47
          try clear c54
          try clear hcz11_0
          try clear hcz11_1
          try clear hcz11_2
          try clear hcz11_3
          try clear hcz11_4
          try clear hcz11_5
          try clear hcz11_6
          try clear hcz11_7
          try clear hcz11_8
          try clear hcz15_0
          try clear hcz15_1
          try clear hcz15_2
          try clear hcz15_3
          try clear hcz15_4
          try clear hcz15_5
          try clear hcz15_6
          try clear hcz15_7
          try clear hcz15_8
          try clear hcz17_0
          try clear hcz17_1
          try clear hcz17_2
          try clear hcz17_3
          try clear hcz17_4
          try clear hcz17_5
          try clear hcz17_6
          try clear hcz17_7
          try clear hcz17_8
          try clear hcz19_0
          try clear hcz19_1
          try clear hcz19_2
          try clear hcz19_3
          try clear hcz19_4
          try clear hcz19_5
          try clear hcz19_6
          try clear hcz19_7
          try clear hcz19_8
          try clear hcz24_0
          try clear hcz24_1
          try clear hcz24_2
          try clear hcz24_3
          try clear hcz24_4
          try clear hcz24_5
          try clear hcz24_6
          try clear hcz24_7
          try clear hcz24_8
          try clear hcz29_0
          try clear hcz29_1
          try clear hcz29_2
          try clear hcz29_3
          try clear hcz29_4
          try clear hcz29_5
          try clear hcz29_6
          try clear hcz29_7
          try clear hcz29_8
          try clear hcz33_0
          try clear hcz33_1
          try clear hcz35_0
          try clear hcz35_1
          try clear hcz35_2
          try clear hcz35_3
          try clear hcz35_4
          try clear hcz35_5
          try clear hcz35_6
          try clear hcz35_7
          try clear hcz35_8
          try clear hcz36_0
          try clear hcz36_1
          try clear hcz36_2
          try clear hcz36_3
          try clear hcz36_4
          try clear hcz36_5
          try clear hcz36_6
          try clear hcz36_7
          try clear hcz36_8
          try clear hcz40_0
          try clear hcz40_1
          try clear hcz42_0
          try clear hcz42_1
          try clear hcz42_2
          try clear hcz42_3
          try clear hcz42_4
          try clear hcz42_5
          try clear hcz42_6
          try clear hcz42_7
          try clear hcz42_8
          try clear hcz44_0
          try clear hcz44_1
          try clear hcz44_2
          try clear hcz44_3
          try clear hcz44_4
          try clear hcz44_5
          try clear hcz44_6
          try clear hcz44_7
          try clear hcz44_8
          try clear hcz48_0
          try clear hcz48_1
          try clear hcz50_0
          try clear hcz50_1
          try clear hcz50_2
          try clear hcz50_3
          try clear hcz50_4
          try clear hcz50_5
          try clear hcz50_6
          try clear hcz50_7
          try clear hcz50_8
          try clear hcz51_0
          try clear hcz51_1
          try clear hcz51_2
          try clear hcz51_3
          try clear hcz51_4
          try clear hcz51_5
          try clear hcz51_6
          try clear hcz51_7
          try clear hcz51_8
          try clear hcz55_0
          try clear hcz55_1
          try clear hcz57_0
          try clear hcz57_1
          try clear hcz57_2
          try clear hcz57_3
          try clear hcz57_4
          try clear hcz57_5
          try clear hcz57_6
          try clear hcz57_7
          try clear hcz57_8
          try clear hcz7_0
          try clear hcz7_1
          try clear hcz7_2
          try clear hcz7_3
          try clear hcz7_4
          try clear hcz7_5
          try clear hcz7_6
          try clear hcz7_7
          try clear hcz7_8
          try clear hcz9_0
          try clear hcz9_1
          try clear hcz9_2
          try clear hcz9_3
          try clear hcz9_4
          try clear hcz9_5
          try clear hcz9_6
          try clear hcz9_7
          try clear hcz9_8
          try clear hfz11_0
          try clear hfz11_1
          try clear hfz11_2
          try clear hfz11_3
          try clear hfz11_4
          try clear hfz11_5
          try clear hfz11_6
          try clear hfz11_7
          try clear hfz11_8
          try clear hfz15_0
          try clear hfz15_1
          try clear hfz15_2
          try clear hfz15_3
          try clear hfz15_4
          try clear hfz15_5
          try clear hfz15_6
          try clear hfz15_7
          try clear hfz15_8
          try clear hfz17_0
          try clear hfz17_1
          try clear hfz17_2
          try clear hfz17_3
          try clear hfz17_4
          try clear hfz17_5
          try clear hfz17_6
          try clear hfz17_7
          try clear hfz17_8
          try clear hfz19_0
          try clear hfz19_1
          try clear hfz19_2
          try clear hfz19_3
          try clear hfz19_4
          try clear hfz19_5
          try clear hfz19_6
          try clear hfz19_7
          try clear hfz19_8
          try clear hfz24_0
          try clear hfz24_1
          try clear hfz24_2
          try clear hfz24_3
          try clear hfz24_4
          try clear hfz24_5
          try clear hfz24_6
          try clear hfz24_7
          try clear hfz24_8
          try clear hfz29_0
          try clear hfz29_1
          try clear hfz29_2
          try clear hfz29_3
          try clear hfz29_4
          try clear hfz29_5
          try clear hfz29_6
          try clear hfz29_7
          try clear hfz29_8
          try clear hfz33_0
          try clear hfz33_1
          try clear hfz35_0
          try clear hfz35_1
          try clear hfz35_2
          try clear hfz35_3
          try clear hfz35_4
          try clear hfz35_5
          try clear hfz35_6
          try clear hfz35_7
          try clear hfz35_8
          try clear hfz36_0
          try clear hfz36_1
          try clear hfz36_2
          try clear hfz36_3
          try clear hfz36_4
          try clear hfz36_5
          try clear hfz36_6
          try clear hfz36_7
          try clear hfz36_8
          try clear hfz40_0
          try clear hfz40_1
          try clear hfz42_0
          try clear hfz42_1
          try clear hfz42_2
          try clear hfz42_3
          try clear hfz42_4
          try clear hfz42_5
          try clear hfz42_6
          try clear hfz42_7
          try clear hfz42_8
          try clear hfz44_0
          try clear hfz44_1
          try clear hfz44_2
          try clear hfz44_3
          try clear hfz44_4
          try clear hfz44_5
          try clear hfz44_6
          try clear hfz44_7
          try clear hfz44_8
          try clear hfz48_0
          try clear hfz48_1
          try clear hfz50_0
          try clear hfz50_1
          try clear hfz50_2
          try clear hfz50_3
          try clear hfz50_4
          try clear hfz50_5
          try clear hfz50_6
          try clear hfz50_7
          try clear hfz50_8
          try clear hfz51_0
          try clear hfz51_1
          try clear hfz51_2
          try clear hfz51_3
          try clear hfz51_4
          try clear hfz51_5
          try clear hfz51_6
          try clear hfz51_7
          try clear hfz51_8
          try clear hfz55_0
          try clear hfz55_1
          try clear hfz57_0
          try clear hfz57_1
          try clear hfz57_2
          try clear hfz57_3
          try clear hfz57_4
          try clear hfz57_5
          try clear hfz57_6
          try clear hfz57_7
          try clear hfz57_8
          try clear hfz7_0
          try clear hfz7_1
          try clear hfz7_2
          try clear hfz7_3
          try clear hfz7_4
          try clear hfz7_5
          try clear hfz7_6
          try clear hfz7_7
          try clear hfz7_8
          try clear hfz9_0
          try clear hfz9_1
          try clear hfz9_2
          try clear hfz9_3
          try clear hfz9_4
          try clear hfz9_5
          try clear hfz9_6
          try clear hfz9_7
          try clear hfz9_8
          try clear p2
          obtain ⟨kq, x8_22, rfl, HA, HJ22, BK216, HB⟩ := hcut
          cases kq with
          | zero => exact absurd HA.out (by simp [secateurref07_Fits.j1])
          | succ kj22 =>
            have H := HA.out
            clear HA
            simp only [secateurref07_Fits.j1] at H
            have HC58 := Aside0.mk H
            clear H
            go_upto_region 13 with (fail)
            go_cut [100] (fun v100 wc => ∃ (kq : Nat) (x100_57 : Bool), v100 = .bool x100_57 ∧ Aside0 (secateurref07_Fits.j2 kq a1 a2 t217 x100_57 a0_0 a0_1 a0_2 a0_3 a0_4 a0_5 a0_6 a0_7 l0_8 = some r) ∧ Aside0 (kq ≤ kj22) ∧ Aside0 (wc.heap[gb216]? = some (.cells #[.int .i64 a0_0, .int .i64 a0_1, .int .i64 a0_2, .int .i64 a0_3, .int .i64 a0_4, .string a0_5, .string a0_6, .string a0_7, (.slice A0_8 l0_8.length c0_8)] 44 (0, 0))) ∧ Aside0 (Below w.heap.size w wc))
            case first =>
              have H := HC58.out
              clear HC58
              replace H := Option.bind_eq_some_iff.mp H
              obtain ⟨t228, A590, H⟩ := H
              replace H : (if t228 = true then ((secateurref07_within.f a0_1 a1).bind fun t229 => (if t229 = true then ((secateurref07_Has.f t217 98).bind fun t230 => (if t230 = true then ((secateurref07_within.f a0_2 a1).bind fun t231 => (if t231 = true then ((secateurref07_Has.f t217 99).bind fun t232 => (if t232 = true then ((secateurref07_within.f a0_3 a1).bind fun t233 => (if t233 = true then (if x8_22 = true then (secateurref07_Fits.j2 kj22 a1 a2 t217 (a0_1 != 0) a0_0 a0_1 a0_2 a0_3 a0_4 a0_5 a0_6 a0_7 l0_8) else (secateurref07_Fits.j2 kj22 a1 a2 t217 false a0_0 a0_1 a0_2 a0_3 a0_4 a0_5 a0_6 a0_7 l0_8)) else (secateurref07_Fits.j2 kj22 a1 a2 t217 true a0_0 a0_1 a0_2 a0_3 a0_4 a0_5 a0_6 a0_7 l0_8))) else (if x8_22 = true then (secateurref07_Fits.j2 kj22 a1 a2 t217 (a0_1 != 0) a0_0 a0_1 a0_2 a0_3 a0_4 a0_5 a0_6 a0_7 l0_8) else (secateurref07_Fits.j2 kj22 a1 a2 t217 false a0_0 a0_1 a0_2 a0_3 a0_4 a0_5 a0_6 a0_7 l0_8)))) else (secateurref07_Fits.j2 kj22 a1 a2 t217 true a0_0 a0_1 a0_2 a0_3 a0_4 a0_5 a0_6 a0_7 l0_8))) else ((secateurref07_Has.f t217 99).bind fun t234 => (if t234 = true then ((secateurref07_within.f a0_3 a1).bind fun t235 => (if t235 = true then (if x8_22 = true then (secateurref07_Fits.j2 kj22 a1 a2 t217 (a0_1 != 0) a0_0 a0_1 a0_2 a0_3 a0_4 a0_5 a0_6 a0_7 l0_8) else (secateurref07_Fits.j2 kj22 a1 a2 t217 false a0_0 a0_1 a0_2 a0_3 a0_4 a0_5 a0_6 a0_7 l0_8)) else (secateurref07_Fits.j2 kj22 a1 a2 t217 true a0_0 a0_1 a0_2 a0_3 a0_4 a0_5 a0_6 a0_7 l0_8))) else (if x8_22 = true then (secateurref07_Fits.j2 kj22 a1 a2 t217 (a0_1 != 0) a0_0 a0_1 a0_2 a0_3 a0_4 a0_5 a0_6 a0_7 l0_8) else (secateurref07_Fits.j2 kj22 a1 a2 t217 false a0_0 a0_1 a0_2 a0_3 a0_4 a0_5 a0_6 a0_7 l0_8)))))) else (secateurref07_Fits.j2 kj22 a1 a2 t217 true a0_0 a0_1 a0_2 a0_3 a0_4 a0_5 a0_6 a0_7 l0_8))) else ((secateurref07_Has.f t217 98).bind fun t236 => (if t236 = true then ((secateurref07_within.f a0_2 a1).bind fun t237 => (if t237 = true then ((secateurref07_Has.f t217 99).bind fun t238 => (if t238 = true then ((secateurref07_within.f a0_3 a1).bind fun t239 => (if t239 = true then (if x8_22 = true then (secateurref07_Fits.j2 kj22 a1 a2 t217 (a0_1 != 0) a0_0 a0_1 a0_2 a0_3 a0_4 a0_5 a0_6 a0_7 l0_8) else (secateurref07_Fits.j2 kj22 a1 a2 t217 false a0_0 a0_1 a0_2 a0_3 a0_4 a0_5 a0_6 a0_7 l0_8)) else (secateurref07_Fits.j2 kj22 a1 a2 t217 true a0_0 a0_1 a0_2 a0_3 a0_4 a0_5 a0_6 a0_7 l0_8))) else (if x8_22 = true then (secateurref07_Fits.j2 kj22 a1 a2 t217 (a0_1 != 0) a0_0 a0_1 a0_2 a0_3 a0_4 a0_5 a0_6 a0_7 l0_8) else (secateurref07_Fits.j2 kj22 a1 a2 t217 false a0_0 a0_1 a0_2 a0_3 a0_4 a0_5 a0_6 a0_7 l0_8)))) else (secateurref07_Fits.j2 kj22 a1 a2 t217 true a0_0 a0_1 a0_2 a0_3 a0_4 a0_5 a0_6 a0_7 l0_8))) else ((secateurref07_Has.f t217 99).bind fun t240 => (if t240 = true then ((secateurref07_within.f a0_3 a1).bind fun t241 => (if t241 = true then (if x8_22 = true then (secateurref07_Fits.j2 kj22 a1 a2 t217 (a0_1 != 0) a0_0 a0_1 a0_2 a0_3 a0_4 a0_5 a0_6 a0_7 l0_8) else (secateurref07_Fits.j2 kj22 a1 a2 t217 false a0_0 a0_1 a0_2 a0_3 a0_4 a0_5 a0_6 a0_7 l0_8)) else (secateurref07_Fits.j2 kj22 a1 a2 t217 true a0_0 a0_1 a0_2 a0_3 a0_4 a0_5 a0_6 a0_7 l0_8))) else (if x8_22 = true then (secateurref07_Fits.j2 kj22 a1 a2 t217 (a0_1 != 0) a0_0 a0_1 a0_2 a0_3 a0_4 a0_5 a0_6 a0_7 l0_8) else (secateurref07_Fits.j2 kj22 a1 a2 t217 false a0_0 a0_1 a0_2 a0_3 a0_4 a0_5 a0_6 a0_7 l0_8))))))) = some r := H
              have A59 := Aside0.mk A590
              clear A590
              by_cases c60 : t228 = true
              · subst c60
                have H1 : ((secateurref07_within.f a0_1 a1).bind fun t229 => (if t229 = true then ((secateurref07_Has.f t217 98).bind fun t230 => (if t230 = true then ((secateurref07_within.f a0_2 a1).bind fun t231 => (if t231 = true then ((secateurref07_Has.f t217 99).bind fun t232 => (if t232 = true then ((secateurref07_within.f a0_3 a1).bind fun t233 => (if t233 = true then (if x8_22 = true then (secateurref07_Fits.j2 kj22 a1 a2 t217 (a0_1 != 0) a0_0 a0_1 a0_2 a0_3 a0_4 a0_5 a0_6 a0_7 l0_8) else (secateurref07_Fits.j2 kj22 a1 a2 t217 false a0_0 a0_1 a0_2 a0_3 a0_4 a0_5 a0_6 a0_7 l0_8)) else (secateurref07_Fits.j2 kj22 a1 a2 t217 true a0_0 a0_1 a0_2 a0_3 a0_4 a0_5 a0_6 a0_7 l0_8))) else (if x8_22 = true then (secateurref07_Fits.j2 kj22 a1 a2 t217 (a0_1 != 0) a0_0 a0_1 a0_2 a0_3 a0_4 a0_5 a0_6 a0_7 l0_8) else (secateurref07_Fits.j2 kj22 a1 a2 t217 false a0_0 a0_1 a0_2 a0_3 a0_4 a0_5 a0_6 a0_7 l0_8)))) else (secateurref07_Fits.j2 kj22 a1 a2 t217 true a0_0 a0_1 a0_2 a0_3 a0_4 a0_5 a0_6 a0_7 l0_8))) else ((secateurref07_Has.f t217 99).bind fun t234 => (if t234 = true then ((secateurref07_within.f a0_3 a1).bind fun t235 => (if t235 = true then (if x8_22 = true then (secateurref07_Fits.j2 kj22 a1 a2 t217 (a0_1 != 0) a0_0 a0_1 a0_2 a0_3 a0_4 a0_5 a0_6 a0_7 l0_8) else (secateurref07_Fits.j2 kj22 a1 a2 t217 false a0_0 a0_1 a0_2 a0_3 a0_4 a0_5 a0_6 a0_7 l0_8)) else (secateurref07_Fits.j2 kj22 a1 a2 t217 true a0_0 a0_1 a0_2 a0_3 a0_4 a0_5 a0_6 a0_7 l0_8))) else (if x8_22 = true then (secateurref07_Fits.j2 kj22 a1 a2 t217 (a0_1 != 0) a0_0 a0_1 a0_2 a0_3 a0_4 a0_5 a0_6 a0_7 l0_8) else (secateurref07_Fits.j2 kj22 a1 a2 t217 false a0_0 a0_1 a0_2 a0_3 a0_4 a0_5 a0_6 a0_7 l0_8)))))) else (secateurref07_Fits.j2 kj22 a1 a2 t217 true a0_0 a0_1 a0_2 a0_3 a0_4 a0_5 a0_6 a0_7 l0_8))) = some r := by rw [if_pos rfl] at H; exact H
                clear H
                have H := H1
                clear H1
                replace H := Option.bind_eq_some_iff.mp H
                obtain ⟨t229, A610, H⟩ := H
                replace H : (if t229 = true then ((secateurref07_Has.f t217 98).bind fun t230 => (if t230 = true then ((secateurref07_within.f a0_2 a1).bind fun t231 => (if t231 = true then ((secateurref07_Has.f t217 99).bind fun t232 => (if t232 = true then ((secateurref07_within.f a0_3 a1).bind fun t233 => (if t233 = true then (if x8_22 = true then (secateurref07_Fits.j2 kj22 a1 a2 t217 (a0_1 != 0) a0_0 a0_1 a0_2 a0_3 a0_4 a0_5 a0_6 a0_7 l0_8) else (secateurref07_Fits.j2 kj22 a1 a2 t217 false a0_0 a0_1 a0_2 a0_3 a0_4 a0_5 a0_6 a0_7 l0_8)) else (secateurref07_Fits.j2 kj22 a1 a2 t217 true a0_0 a0_1 a0_2 a0_3 a0_4 a0_5 a0_6 a0_7 l0_8))) else (if x8_22 = true then (secateurref07_Fits.j2 kj22 a1 a2 t217 (a0_1 != 0) a0_0 a0_1 a0_2 a0_3 a0_4 a0_5 a0_6 a0_7 l0_8) else (secateurref07_Fits.j2 kj22 a1 a2 t217 false a0_0 a0_1 a0_2 a0_3 a0_4 a0_5 a0_6 a0_7 l0_8)))) else (secateurref07_Fits.j2 kj22 a1 a2 t217 true a0_0 a0_1 a0_2 a0_3 a0_4 a0_5 a0_6 a0_7 l0_8))) else ((secateurref07_Has.f t217 99).bind fun t234 => (if t234 = true then ((secateurref07_within.f a0_3 a1).bind fun t235 => (if t235 = true then (if x8_22 = true then (secateurref07_Fits.j2 kj22 a1 a2 t217 (a0_1 != 0) a0_0 a0_1 a0_2 a0_3 a0_4 a0_5 a0_6 a0_7 l0_8) else (secateurref07_Fits.j2 kj22 a1 a2 t217 false a0_0 a0_1 a0_2 a0_3 a0_4 a0_5 a0_6 a0_7 l0_8)) else (secateurref07_Fits.j2 kj22 a1 a2 t217 true a0_0 a0_1 a0_2 a0_3 a0_4 a0_5 a0_6 a0_7 l0_8))) else (if x8_22 = true then (secateurref07_Fits.j2 kj22 a1 a2 t217 (a0_1 != 0) a0_0 a0_1 a0_2 a0_3 a0_4 a0_5 a0_6 a0_7 l0_8) else (secateurref07_Fits.j2 kj22 a1 a2 t217 false a0_0 a0_1 a0_2 a0_3 a0_4 a0_5 a0_6 a0_7 l0_8)))))) else (secateurref07_Fits.j2 kj22 a1 a2 t217 true a0_0 a0_1 a0_2 a0_3 a0_4 a0_5 a0_6 a0_7 l0_8)) = some r := H
                have A61 := Aside0.mk A610
                clear A610
                by_cases c62 : t229 = true
                · subst c62
                  have H1 : ((secateurref07_Has.f t217 98).bind fun t230 => (if t230 = true then ((secateurref07_within.f a0_2 a1).bind fun t231 => (if t231 = true then ((secateurref07_Has.f t217 99).bind fun t232 => (if t232 = true then ((secateurref07_within.f a0_3 a1).bind fun t233 => (if t233 = true then (if x8_22 = true then (secateurref07_Fits.j2 kj22 a1 a2 t217 (a0_1 != 0) a0_0 a0_1 a0_2 a0_3 a0_4 a0_5 a0_6 a0_7 l0_8) else (secateurref07_Fits.j2 kj22 a1 a2 t217 false a0_0 a0_1 a0_2 a0_3 a0_4 a0_5 a0_6 a0_7 l0_8)) else (secateurref07_Fits.j2 kj22 a1 a2 t217 true a0_0 a0_1 a0_2 a0_3 a0_4 a0_5 a0_6 a0_7 l0_8))) else (if x8_22 = true then (secateurref07_Fits.j2 kj22 a1 a2 t217 (a0_1 != 0) a0_0 a0_1 a0_2 a0_3 a0_4 a0_5 a0_6 a0_7 l0_8) else (secateurref07_Fits.j2 kj22 a1 a2 t217 false a0_0 a0_1 a0_2 a0_3 a0_4 a0_5 a0_6 a0_7 l0_8)))) else (secateurref07_Fits.j2 kj22 a1 a2 t217 true a0_0 a0_1 a0_2 a0_3 a0_4 a0_5 a0_6 a0_7 l0_8))) else ((secateurref07_Has.f t217 99).bind fun t234 => (if t234 = true then ((secateurref07_within.f a0_3 a1).bind fun t235 => (if t235 = true then (if x8_22 = true then (secateurref07_Fits.j2 kj22 a1 a2 t217 (a0_1 != 0) a0_0 a0_1 a0_2 a0_3 a0_4 a0_5 a0_6 a0_7 l0_8) else (secateurref07_Fits.j2 kj22 a1 a2 t217 false a0_0 a0_1 a0_2 a0_3 a0_4 a0_5 a0_6 a0_7 l0_8)) else (secateurref07_Fits.j2 kj22 a1 a2 t217 true a0_0 a0_1 a0_2 a0_3 a0_4 a0_5 a0_6 a0_7 l0_8))) else (if x8_22 = true then (secateurref07_Fits.j2 kj22 a1 a2 t217 (a0_1 != 0) a0_0 a0_1 a0_2 a0_3 a0_4 a0_5 a0_6 a0_7 l0_8) else (secateurref07_Fits.j2 kj22 a1 a2 t217 false a0_0 a0_1 a0_2 a0_3 a0_4 a0_5 a0_6 a0_7 l0_8)))))) = some r := by rw [if_pos rfl] at H; exact H
                  clear H
                  have H := H1
                  clear H1
                  replace H := Option.bind_eq_some_iff.mp H
                  obtain ⟨t230, A630, H⟩ := H
                  replace H : (if t230 = true then ((secateurref07_within.f a0_2 a1).bind fun t231 => (if t231 = true then ((secateurref07_Has.f t217 99).bind fun t232 => (if t232 = true then ((secateurref07_within.f a0_3 a1).bind fun t233 => (if t233 = true then (if x8_22 = true then (secateurref07_Fits.j2 kj22 a1 a2 t217 (a0_1 != 0) a0_0 a0_1 a0_2 a0_3 a0_4 a0_5 a0_6 a0_7 l0_8) else (secateurref07_Fits.j2 kj22 a1 a2 t217 false a0_0 a0_1 a0_2 a0_3 a0_4 a0_5 a0_6 a0_7 l0_8)) else (secateurref07_Fits.j2 kj22 a1 a2 t217 true a0_0 a0_1 a0_2 a0_3 a0_4 a0_5 a0_6 a0_7 l0_8))) else (if x8_22 = true then (secateurref07_Fits.j2 kj22 a1 a2 t217 (a0_1 != 0) a0_0 a0_1 a0_2 a0_3 a0_4 a0_5 a0_6 a0_7 l0_8) else (secateurref07_Fits.j2 kj22 a1 a2 t217 false a0_0 a0_1 a0_2 a0_3 a0_4 a0_5 a0_6 a0_7 l0_8)))) else (secateurref07_Fits.j2 kj22 a1 a2 t217 true a0_0 a0_1 a0_2 a0_3 a0_4 a0_5 a0_6 a0_7 l0_8))) else ((secateurref07_Has.f t217 99).bind fun t234 => (if t234 = true then ((secateurref07_within.f a0_3 a1).bind fun t235 => (if t235 = true then (if x8_22 = true then (secateurref07_Fits.j2 kj22 a1 a2 t217 (a0_1 != 0) a0_0 a0_1 a0_2 a0_3 a0_4 a0_5 a0_6 a0_7 l0_8) else (secateurref07_Fits.j2 kj22 a1 a2 t217 false a0_0 a0_1 a0_2 a0_3 a0_4 a0_5 a0_6 a0_7 l0_8)) else (secateurref07_Fits.j2 kj22 a1 a2 t217 true a0_0 a0_1 a0_2 a0_3 a0_4 a0_5 a0_6 a0_7 l0_8))) else (if x8_22 = true then (secateurref07_Fits.j2 kj22 a1 a2 t217 (a0_1 != 0) a0_0 a0_1 a0_2 a0_3 a0_4 a0_5 a0_6 a0_7 l0_8) else (secateurref07_Fits.j2 kj22 a1 a2 t217 false a0_0 a0_1 a0_2 a0_3 a0_4 a0_5 a0_6 a0_7 l0_8))))) = some r := H
                  have A63 := Aside0.mk A630
                  clear A630
                  by_cases c64 : t230 = true
                  · subst c64
                    have H1 : ((secateurref07_within.f a0_2 a1).bind fun t231 => (if t231 = true then ((secateurref07_Has.f t217 99).bind fun t232 => (if t232 = true then ((secateurref07_within.f a0_3 a1).bind fun t233 => (if t233 = true then (if x8_22 = true then (secateurref07_Fits.j2 kj22 a1 a2 t217 (a0_1 != 0) a0_0 a0_1 a0_2 a0_3 a0_4 a0_5 a0_6 a0_7 l0_8) else (secateurref07_Fits.j2 kj22 a1 a2 t217 false a0_0 a0_1 a0_2 a0_3 a0_4 a0_5 a0_6 a0_7 l0_8)) else (secateurref07_Fits.j2 kj22 a1 a2 t217 true a0_0 a0_1 a0_2 a0_3 a0_4 a0_5 a0_6 a0_7 l0_8))) else (if x8_22 = true then (secateurref07_Fits.j2 kj22 a1 a2 t217 (a0_1 != 0) a0_0 a0_1 a0_2 a0_3 a0_4 a0_5 a0_6 a0_7 l0_8) else (secateurref07_Fits.j2 kj22 a1 a2 t217 false a0_0 a0_1 a0_2 a0_3 a0_4 a0_5 a0_6 a0_7 l0_8)))) else (secateurref07_Fits.j2 kj22 a1 a2 t217 true a0_0 a0_1 a0_2 a0_3 a0_4 a0_5 a0_6 a0_7 l0_8))) = some r := by rw [if_pos rfl] at H; exact H
                    clear H
                    have H := H1
                    clear H1
                    replace H := Option.bind_eq_some_iff.mp H
                    obtain ⟨t231, A650, H⟩ := H
                    replace H : (if t231 = true then ((secateurref07_Has.f t217 99).bind fun t232 => (if t232 = true then ((secateurref07_within.f a0_3 a1).bind fun t233 => (if t233 = true then (if x8_22 = true then (secateurref07_Fits.j2 kj22 a1 a2 t217 (a0_1 != 0) a0_0 a0_1 a0_2 a0_3 a0_4 a0_5 a0_6 a0_7 l0_8) else (secateurref07_Fits.j2 kj22 a1 a2 t217 false a0_0 a0_1 a0_2 a0_3 a0_4 a0_5 a0_6 a0_7 l0_8)) else (secateurref07_Fits.j2 kj22 a1 a2 t217 true a0_0 a0_1 a0_2 a0_3 a0_4 a0_5 a0_6 a0_7 l0_8))) else (if x8_22 = true then (secateurref07_Fits.j2 kj22 a1 a2 t217 (a0_1 != 0) a0_0 a0_1 a0_2 a0_3 a0_4 a0_5 a0_6 a0_7 l0_8) else (secateurref07_Fits.j2 kj22 a1 a2 t217 false a0_0 a0_1 a0_2 a0_3 a0_4 a0_5 a0_6 a0_7 l0_8)))) else (secateurref07_Fits.j2 kj22 a1 a2 t217 true a0_0 a0_1 a0_2 a0_3 a0_4 a0_5 a0_6 a0_7 l0_8)) = some r := H
                    have A65 := Aside0.mk A650
                    clear A650
                    by_cases c66 : t231 = true
                    · subst c66
                      have H1 : ((secateurref07_Has.f t217 99).bind fun t232 => (if t232 = true then ((secateurref07_within.f a0_3 a1).bind fun t233 => (if t233 = true then (if x8_22 = true then (secateurref07_Fits.j2 kj22 a1 a2 t217 (a0_1 != 0) a0_0 a0_1 a0_2 a0_3 a0_4 a0_5 a0_6 a0_7 l0_8) else (secateurref07_Fits.j2 kj22 a1 a2 t217 false a0_0 a0_1 a0_2 a0_3 a0_4 a0_5 a0_6 a0_7 l0_8)) else (secateurref07_Fits.j2 kj22 a1 a2 t217 true a0_0 a0_1 a0_2 a0_3 a0_4 a0_5 a0_6 a0_7 l0_8))) else (if x8_22 = true then (secateurref07_Fits.j2 kj22 a1 a2 t217 (a0_1 != 0) a0_0 a0_1 a0_2 a0_3 a0_4 a0_5 a0_6 a0_7 l0_8) else (secateurref07_Fits.j2 kj22 a1 a2 t217 false a0_0 a0_1 a0_2 a0_3 a0_4 a0_5 a0_6 a0_7 l0_8)))) = some r := by rw [if_pos rfl] at H; exact H
                      clear H
                      have H := H1
                      clear H1
                      replace H := Option.bind_eq_some_iff.mp H
                      obtain ⟨t232, A670, H⟩ := H
                      replace H : (if t232 = true then ((secateurref07_within.f a0_3 a1).bind fun t233 => (if t233 = true then (if x8_22 = true then (secateurref07_Fits.j2 kj22 a1 a2 t217 (a0_1 != 0) a0_0 a0_1 a0_2 a0_3 a0_4 a0_5 a0_6 a0_7 l0_8) else (secateurref07_Fits.j2 kj22 a1 a2 t217 false a0_0 a0_1 a0_2 a0_3 a0_4 a0_5 a0_6 a0_7 l0_8)) else (secateurref07_Fits.j2 kj22 a1 a2 t217 true a0_0 a0_1 a0_2 a0_3 a0_4 a0_5 a0_6 a0_7 l0_8))) else (if x8_22 = true then (secateurref07_Fits.j2 kj22 a1 a2 t217 (a0_1 != 0) a0_0 a0_1 a0_2 a0_3 a0_4 a0_5 a0_6 a0_7 l0_8) else (secateurref07_Fits.j2 kj22 a1 a2 t217 false a0_0 a0_1 a0_2 a0_3 a0_4 a0_5 a0_6 a0_7 l0_8))) = some r := H
                      have A67 := Aside0.mk A670
                      clear A670
                      by_cases c68 : t232 = true
                      · subst c68
                        have H1 : ((secateurref07_within.f a0_3 a1).bind fun t233 => (if t233 = true then (if x8_22 = true then (secateurref07_Fits.j2 kj22 a1 a2 t217 (a0_1 != 0) a0_0 a0_1 a0_2 a0_3 a0_4 a0_5 a0_6 a0_7 l0_8) else (secateurref07_Fits.j2 kj22 a1 a2 t217 false a0_0 a0_1 a0_2 a0_3 a0_4 a0_5 a0_6 a0_7 l0_8)) else (secateurref07_Fits.j2 kj22 a1 a2 t217 true a0_0 a0_1 a0_2 a0_3 a0_4 a0_5 a0_6 a0_7 l0_8))) = some r := by rw [if_pos rfl] at H; exact H
                        clear H
                        have H := H1
                        clear H1
                        replace H := Option.bind_eq_some_iff.mp H
                        obtain ⟨t233, A690, H⟩ := H
                        replace H : (if t233 = true then (if x8_22 = true then (secateurref07_Fits.j2 kj22 a1 a2 t217 (a0_1 != 0) a0_0 a0_1 a0_2 a0_3 a0_4 a0_5 a0_6 a0_7 l0_8) else (secateurref07_Fits.j2 kj22 a1 a2 t217 false a0_0 a0_1 a0_2 a0_3 a0_4 a0_5 a0_6 a0_7 l0_8)) else (secateurref07_Fits.j2 kj22 a1 a2 t217 true a0_0 a0_1 a0_2 a0_3 a0_4 a0_5 a0_6 a0_7 l0_8)) = some r := H
                        have A69 := Aside0.mk A690
                        clear A690
                        by_cases c70 : t233 = true
                        · subst c70
                          have H1 : (if x8_22 = true then (secateurref07_Fits.j2 kj22 a1 a2 t217 (a0_1 != 0) a0_0 a0_1 a0_2 a0_3 a0_4 a0_5 a0_6 a0_7 l0_8) else (secateurref07_Fits.j2 kj22 a1 a2 t217 false a0_0 a0_1 a0_2 a0_3 a0_4 a0_5 a0_6 a0_7 l0_8)) = some r := by rw [if_pos rfl] at H; exact H
                          clear H
                          have H := H1
                          clear H1
                          by_cases c71 : x8_22 = true
                          · subst c71
                            have H1 : (secateurref07_Fits.j2 kj22 a1 a2 t217 (a0_1 != 0) a0_0 a0_1 a0_2 a0_3 a0_4 a0_5 a0_6 a0_7 l0_8) = some r := by rw [if_pos rfl] at H; exact H
                            clear H
                            have H := H1
                            clear H1
                            as_aux_lemma =>
                              have H' := Aside0.mk H
                              clear H
                              go_wp2_with (first | ((with_reducible refine gate_callee (f := 32) rfl ?_); refine goesL_ (some 63) rfl rfl Tryd.func32 (by kernel_rfl) rfl #[.string t217, .int .u8 97] rfl (by (try simp only [List.map_toArray, List.map_cons, List.map_nil]); first | done | rfl | (simp only [List.length_drop, List.length_take]; rfl)) ?_; (with_reducible refine (secateurref07_Has.calls t217 97 true _ A59.out).mono ?_); rintro e w' ⟨rfl, ⟨nd, rfl⟩⟩; refine ⟨_, rfl, ?_⟩; have hcz72_0 : wc.cell? ⟨gb216, 0, none⟩ = some (.int .i64 a0_0) := (blk_cell BK216.out 0).trans rfl; have hcz72_1 : wc.cell? ⟨gb216, 1, none⟩ = some (.int .i64 a0_1) := (blk_cell BK216.out 1).trans rfl; have hcz72_2 : wc.cell? ⟨gb216, 2, none⟩ = some (.int .i64 a0_2) := (blk_cell BK216.out 2).trans rfl; have hcz72_3 : wc.cell? ⟨gb216, 3, none⟩ = some (.int .i64 a0_3) := (blk_cell BK216.out 3).trans rfl; have hcz72_4 : wc.cell? ⟨gb216, 4, none⟩ = some (.int .i64 a0_4) := (blk_cell BK216.out 4).trans rfl; have hcz72_5 : wc.cell? ⟨gb216, 5, none⟩ = some (.string a0_5) := (blk_cell BK216.out 5).trans rfl; have hcz72_6 : wc.cell? ⟨gb216, 6, none⟩ = some (.string a0_6) := (blk_cell BK216.out 6).trans rfl; have hcz72_7 : wc.cell? ⟨gb216, 7, none⟩ = some (.string a0_7) := (blk_cell BK216.out 7).trans rfl; have hcz72_8 : wc.cell? ⟨gb216, 8, none⟩ = some (.slice A0_8 l0_8.length c0_8) := (blk_cell BK216.out 8).trans rfl; have hfz72_0 := blk_frozen BK216.out 0; have hfz72_1 := blk_frozen BK216.out 1; have hfz72_2 := blk_frozen BK216.out 2; have hfz72_3 := blk_frozen BK216.out 3; have hfz72_4 := blk_frozen BK216.out 4; have hfz72_5 := blk_frozen BK216.out 5; have hfz72_6 := blk_frozen BK216.out 6; have hfz72_7 := blk_frozen BK216.out 7; have hfz72_8 := blk_frozen BK216.out 8) | (go_at_call 48; (with_reducible refine (secateurref07_within.calls a0_1 a1 true _ A61.out).mono ?_); rintro e w' ⟨rfl, ⟨nd, rfl⟩⟩) | (go_at_call 32; (with_reducible refine (secateurref07_Has.calls t217 98 true _ A63.out).mono ?_); rintro e w' ⟨rfl, ⟨nd, rfl⟩⟩) | (go_at_call 48; (with_reducible refine (secateurref07_within.calls a0_2 a1 true _ A65.out).mono ?_); rintro e w' ⟨rfl, ⟨nd, rfl⟩⟩) | (go_at_call 32; (with_reducible refine (secateurref07_Has.calls t217 99 true _ A67.out).mono ?_); rintro e w' ⟨rfl, ⟨nd, rfl⟩⟩) | (go_at_call 48; (with_reducible refine (secateurref07_within.calls a0_3 a1 true _ A69.out).mono ?_); rintro e w' ⟨rfl, ⟨nd, rfl⟩⟩))
                              go_meet
                              case rel => exact ⟨_, ((a0_1 != 0)), (by first | rfl | (simp; done) | (simp [*]; done)), H', ⟨by have := HJ4.out; have := HJ22.out; first | omega | exact Nat.le_refl _⟩, ⟨by (with_reducible repeat (first | refine blk_drewN ?_ _ | refine blk_drew ?_ | refine blk_alloc ?_ _)); exact BK216.out⟩, ⟨by repeat (first | (with_reducible first | exact HB.out | apply below_alloc | apply pw_below_drewN | apply below_drew1 | refine below_set ?_ GE216.out) | exact HB.out)⟩⟩
                          · replace c71 := Bool.eq_false_iff.mpr c71
                            subst c71
                            have H1 : (secateurref07_Fits.j2 kj22 a1 a2 t217 false a0_0 a0_1 a0_2 a0_3 a0_4 a0_5 a0_6 a0_7 l0_8) = some r := by rw [if_neg (show ¬ (false = true) by decide)] at H; exact H
                            clear H
                            have H := H1
                            clear H1
                            as_aux_lemma =>
                              have H' := Aside0.mk H
                              clear H
                              go_wp2_with (first | ((with_reducible refine gate_callee (f := 32) rfl ?_); refine goesL_ (some 63) rfl rfl Tryd.func32 (by kernel_rfl) rfl #[.string t217, .int .u8 97] rfl (by (try simp only [List.map_toArray, List.map_cons, List.map_nil]); first | done | rfl | (simp only [List.length_drop, List.length_take]; rfl)) ?_; (with_reducible refine (secateurref07_Has.calls t217 97 true _ A59.out).mono ?_); rintro e w' ⟨rfl, ⟨nd, rfl⟩⟩; refine ⟨_, rfl, ?_⟩; have hcz73_0 : wc.cell? ⟨gb216, 0, none⟩ = some (.int .i64 a0_0) := (blk_cell BK216.out 0).trans rfl; have hcz73_1 : wc.cell? ⟨gb216, 1, none⟩ = some (.int .i64 a0_1) := (blk_cell BK216.out 1).trans rfl; have hcz73_2 : wc.cell? ⟨gb216, 2, none⟩ = some (.int .i64 a0_2) := (blk_cell BK216.out 2).trans rfl; have hcz73_3 : wc.cell? ⟨gb216, 3, none⟩ = some (.int .i64 a0_3) := (blk_cell BK216.out 3).trans rfl; have hcz73_4 : wc.cell? ⟨gb216, 4, none⟩ = some (.int .i64 a0_4) := (blk_cell BK216.out 4).trans rfl; have hcz73_5 : wc.cell? ⟨gb216, 5, none⟩ = some (.string a0_5) := (blk_cell BK216.out 5).trans rfl; have hcz73_6 : wc.cell? ⟨gb216, 6, none⟩ = some (.string a0_6) := (blk_cell BK216.out 6).trans rfl; have hcz73_7 : wc.cell? ⟨gb216, 7, none⟩ = some (.string a0_7) := (blk_cell BK216.out 7).trans rfl; have hcz73_8 : wc.cell? ⟨gb216, 8, none⟩ = some (.slice A0_8 l0_8.length c0_8) := (blk_cell BK216.out 8).trans rfl; have hfz73_0 := blk_frozen BK216.out 0; have hfz73_1 := blk_frozen BK216.out 1; have hfz73_2 := blk_frozen BK216.out 2; have hfz73_3 := blk_frozen BK216.out 3; have hfz73_4 := blk_frozen BK216.out 4; have hfz73_5 := blk_frozen BK216.out 5; have hfz73_6 := blk_frozen BK216.out 6; have hfz73_7 := blk_frozen BK216.out 7; have hfz73_8 := blk_frozen BK216.out 8) | (go_at_call 48; (with_reducible refine (secateurref07_within.calls a0_1 a1 true _ A61.out).mono ?_); rintro e w' ⟨rfl, ⟨nd, rfl⟩⟩) | (go_at_call 32; (with_reducible refine (secateurref07_Has.calls t217 98 true _ A63.out).mono ?_); rintro e w' ⟨rfl, ⟨nd, rfl⟩⟩) | (go_at_call 48; (with_reducible refine (secateurref07_within.calls a0_2 a1 true _ A65.out).mono ?_); rintro e w' ⟨rfl, ⟨nd, rfl⟩⟩) | (go_at_call 32; (with_reducible refine (secateurref07_Has.calls t217 99 true _ A67.out).mono ?_); rintro e w' ⟨rfl, ⟨nd, rfl⟩⟩) | (go_at_call 48; (with_reducible refine (secateurref07_within.calls a0_3 a1 true _ A69.out).mono ?_); rintro e w' ⟨rfl, ⟨nd, rfl⟩⟩))
                              go_meet
                              case rel => exact ⟨_, (false), (by first | rfl | (simp; done) | (simp [*]; done)), H', ⟨by have := HJ4.out; have := HJ22.out; first | omega | exact Nat.le_refl _⟩, ⟨by (with_reducible repeat (first | refine blk_drewN ?_ _ | refine blk_drew ?_ | refine blk_alloc ?_ _)); exact BK216.out⟩, ⟨by repeat (first | (with_reducible first | exact HB.out | apply below_alloc | apply pw_below_drewN | apply below_drew1 | refine below_set ?_ GE216.out) | exact HB.out)⟩⟩
                        · replace c70 := Bool.eq_false_iff.mpr c70
                          subst c70
                          have H1 : (secateurref07_Fits.j2 kj22 a1 a2 t217 true a0_0 a0_1 a0_2 a0_3 a0_4 a0_5 a0_6 a0_7 l0_8) = some r := by rw [if_neg (show ¬ (false = true) by decide)] at H; exact H
                          clear H
                          have H := H1
                          clear H1
                          as_aux_lemma =>
                            have H' := Aside0.mk H
                            clear H
                            go_wp2_with (first | ((with_reducible refine gate_callee (f := 32) rfl ?_); refine goesL_ (some 63) rfl rfl Tryd.func32 (by kernel_rfl) rfl #[.string t217, .int .u8 97] rfl (by (try simp only [List.map_toArray, List.map_cons, List.map_nil]); first | done | rfl | (simp only [List.length_drop, List.length_take]; rfl)) ?_; (with_reducible refine (secateurref07_Has.calls t217 97 true _ A59.out).mono ?_); rintro e w' ⟨rfl, ⟨nd, rfl⟩⟩; refine ⟨_, rfl, ?_⟩; have hcz74_0 : wc.cell? ⟨gb216, 0, none⟩ = some (.int .i64 a0_0) := (blk_cell BK216.out 0).trans rfl; have hcz74_1 : wc.cell? ⟨gb216, 1, none⟩ = some (.int .i64 a0_1) := (blk_cell BK216.out 1).trans rfl; have hcz74_2 : wc.cell? ⟨gb216, 2, none⟩ = some (.int .i64 a0_2) := (blk_cell BK216.out 2).trans rfl; have hcz74_3 : wc.cell? ⟨gb216, 3, none⟩ = some (.int .i64 a0_3) := (blk_cell BK216.out 3).trans rfl; have hcz74_4 : wc.cell? ⟨gb216, 4, none⟩ = some (.int .i64 a0_4) := (blk_cell BK216.out 4).trans rfl; have hcz74_5 : wc.cell? ⟨gb216, 5, none⟩ = some (.string a0_5) := (blk_cell BK216.out 5).trans rfl; have hcz74_6 : wc.cell? ⟨gb216, 6, none⟩ = some (.string a0_6) := (blk_cell BK216.out 6).trans rfl; have hcz74_7 : wc.cell? ⟨gb216, 7, none⟩ = some (.string a0_7) := (blk_cell BK216.out 7).trans rfl; have hcz74_8 : wc.cell? ⟨gb216, 8, none⟩ = some (.slice A0_8 l0_8.length c0_8) := (blk_cell BK216.out 8).trans rfl; have hfz74_0 := blk_frozen BK216.out 0; have hfz74_1 := blk_frozen BK216.out 1; have hfz74_2 := blk_frozen BK216.out 2; have hfz74_3 := blk_frozen BK216.out 3; have hfz74_4 := blk_frozen BK216.out 4; have hfz74_5 := blk_frozen BK216.out 5; have hfz74_6 := blk_frozen BK216.out 6; have hfz74_7 := blk_frozen BK216.out 7; have hfz74_8 := blk_frozen BK216.out 8) | (go_at_call 48; (with_reducible refine (secateurref07_within.calls a0_1 a1 true _ A61.out).mono ?_); rintro e w' ⟨rfl, ⟨nd, rfl⟩⟩) | (go_at_call 32; (with_reducible refine (secateurref07_Has.calls t217 98 true _ A63.out).mono ?_); rintro e w' ⟨rfl, ⟨nd, rfl⟩⟩) | (go_at_call 48; (with_reducible refine (secateurref07_within.calls a0_2 a1 true _ A65.out).mono ?_); rintro e w' ⟨rfl, ⟨nd, rfl⟩⟩) | (go_at_call 32; (with_reducible refine (secateurref07_Has.calls t217 99 true _ A67.out).mono ?_); rintro e w' ⟨rfl, ⟨nd, rfl⟩⟩) | (go_at_call 48; (with_reducible refine (secateurref07_within.calls a0_3 a1 false _ A69.out).mono ?_); rintro e w' ⟨rfl, ⟨nd, rfl⟩⟩))
                            go_meet
                            case rel => exact ⟨_, (true), (by first | rfl | (simp; done) | (simp [*]; done)), H', ⟨by have := HJ4.out; have := HJ22.out; first | omega | exact Nat.le_refl _⟩, ⟨by (with_reducible repeat (first | refine blk_drewN ?_ _ | refine blk_drew ?_ | refine blk_alloc ?_ _)); exact BK216.out⟩, ⟨by repeat (first | (with_reducible first | exact HB.out | apply below_alloc | apply pw_below_drewN | apply below_drew1 | refine below_set ?_ GE216.out) | exact HB.out)⟩⟩
                      · replace c68 := Bool.eq_false_iff.mpr c68
                        subst c68
                        have H1 : (if x8_22 = true then (secateurref07_Fits.j2 kj22 a1 a2 t217 (a0_1 != 0) a0_0 a0_1 a0_2 a0_3 a0_4 a0_5 a0_6 a0_7 l0_8) else (secateurref07_Fits.j2 kj22 a1 a2 t217 false a0_0 a0_1 a0_2 a0_3 a0_4 a0_5 a0_6 a0_7 l0_8)) = some r := by rw [if_neg (show ¬ (false = true) by decide)] at H; exact H
                        clear H
                        have H := H1
                        clear H1
                        by_cases c75 : x8_22 = true
                        · subst c75
                          have H1 : (secateurref07_Fits.j2 kj22 a1 a2 t217 (a0_1 != 0) a0_0 a0_1 a0_2 a0_3 a0_4 a0_5 a0_6 a0_7 l0_8) = some r := by rw [if_pos rfl] at H; exact H
                          clear H
                          have H := H1
                          clear H1
                          as_aux_lemma =>
                            have H' := Aside0.mk H
                            clear H
                            go_wp2_with (first | ((with_reducible refine gate_callee (f := 32) rfl ?_); refine goesL_ (some 63) rfl rfl Tryd.func32 (by kernel_rfl) rfl #[.string t217, .int .u8 97] rfl (by (try simp only [List.map_toArray, List.map_cons, List.map_nil]); first | done | rfl | (simp only [List.length_drop, List.length_take]; rfl)) ?_; (with_reducible refine (secateurref07_Has.calls t217 97 true _ A59.out).mono ?_); rintro e w' ⟨rfl, ⟨nd, rfl⟩⟩; refine ⟨_, rfl, ?_⟩; have hcz76_0 : wc.cell? ⟨gb216, 0, none⟩ = some (.int .i64 a0_0) := (blk_cell BK216.out 0).trans rfl; have hcz76_1 : wc.cell? ⟨gb216, 1, none⟩ = some (.int .i64 a0_1) := (blk_cell BK216.out 1).trans rfl; have hcz76_2 : wc.cell? ⟨gb216, 2, none⟩ = some (.int .i64 a0_2) := (blk_cell BK216.out 2).trans rfl; have hcz76_3 : wc.cell? ⟨gb216, 3, none⟩ = some (.int .i64 a0_3) := (blk_cell BK216.out 3).trans rfl; have hcz76_4 : wc.cell? ⟨gb216, 4, none⟩ = some (.int .i64 a0_4) := (blk_cell BK216.out 4).trans rfl; have hcz76_5 : wc.cell? ⟨gb216, 5, none⟩ = some (.string a0_5) := (blk_cell BK216.out 5).trans rfl; have hcz76_6 : wc.cell? ⟨gb216, 6, none⟩ = some (.string a0_6) := (blk_cell BK216.out 6).trans rfl; have hcz76_7 : wc.cell? ⟨gb216, 7, none⟩ = some (.string a0_7) := (blk_cell BK216.out 7).trans rfl; have hcz76_8 : wc.cell? ⟨gb216, 8, none⟩ = some (.slice A0_8 l0_8.length c0_8) := (blk_cell BK216.out 8).trans rfl; have hfz76_0 := blk_frozen BK216.out 0; have hfz76_1 := blk_frozen BK216.out 1; have hfz76_2 := blk_frozen BK216.out 2; have hfz76_3 := blk_frozen BK216.out 3; have hfz76_4 := blk_frozen BK216.out 4; have hfz76_5 := blk_frozen BK216.out 5; have hfz76_6 := blk_frozen BK216.out 6; have hfz76_7 := blk_frozen BK216.out 7; have hfz76_8 := blk_frozen BK216.out 8) | (go_at_call 48; (with_reducible refine (secateurref07_within.calls a0_1 a1 true _ A61.out).mono ?_); rintro e w' ⟨rfl, ⟨nd, rfl⟩⟩) | (go_at_call 32; (with_reducible refine (secateurref07_Has.calls t217 98 true _ A63.out).mono ?_); rintro e w' ⟨rfl, ⟨nd, rfl⟩⟩) | (go_at_call 48; (with_reducible refine (secateurref07_within.calls a0_2 a1 true _ A65.out).mono ?_); rintro e w' ⟨rfl, ⟨nd, rfl⟩⟩) | (go_at_call 32; (with_reducible refine (secateurref07_Has.calls t217 99 false _ A67.out).mono ?_); rintro e w' ⟨rfl, ⟨nd, rfl⟩⟩))
                            go_meet
                            case rel => exact ⟨_, ((a0_1 != 0)), (by first | rfl | (simp; done) | (simp [*]; done)), H', ⟨by have := HJ4.out; have := HJ22.out; first | omega | exact Nat.le_refl _⟩, ⟨by (with_reducible repeat (first | refine blk_drewN ?_ _ | refine blk_drew ?_ | refine blk_alloc ?_ _)); exact BK216.out⟩, ⟨by repeat (first | (with_reducible first | exact HB.out | apply below_alloc | apply pw_below_drewN | apply below_drew1 | refine below_set ?_ GE216.out) | exact HB.out)⟩⟩
                        · replace c75 := Bool.eq_false_iff.mpr c75
                          subst c75
                          have H1 : (secateurref07_Fits.j2 kj22 a1 a2 t217 false a0_0 a0_1 a0_2 a0_3 a0_4 a0_5 a0_6 a0_7 l0_8) = some r := by rw [if_neg (show ¬ (false = true) by decide)] at H; exact H
                          clear H
                          have H := H1
                          clear H1
                          as_aux_lemma =>
                            have H' := Aside0.mk H
                            clear H
                            go_wp2_with (first | ((with_reducible refine gate_callee (f := 32) rfl ?_); refine goesL_ (some 63) rfl rfl Tryd.func32 (by kernel_rfl) rfl #[.string t217, .int .u8 97] rfl (by (try simp only [List.map_toArray, List.map_cons, List.map_nil]); first | done | rfl | (simp only [List.length_drop, List.length_take]; rfl)) ?_; (with_reducible refine (secateurref07_Has.calls t217 97 true _ A59.out).mono ?_); rintro e w' ⟨rfl, ⟨nd, rfl⟩⟩; refine ⟨_, rfl, ?_⟩; have hcz77_0 : wc.cell? ⟨gb216, 0, none⟩ = some (.int .i64 a0_0) := (blk_cell BK216.out 0).trans rfl; have hcz77_1 : wc.cell? ⟨gb216, 1, none⟩ = some (.int .i64 a0_1) := (blk_cell BK216.out 1).trans rfl; have hcz77_2 : wc.cell? ⟨gb216, 2, none⟩ = some (.int .i64 a0_2) := (blk_cell BK216.out 2).trans rfl; have hcz77_3 : wc.cell? ⟨gb216, 3, none⟩ = some (.int .i64 a0_3) := (blk_cell BK216.out 3).trans rfl; have hcz77_4 : wc.cell? ⟨gb216, 4, none⟩ = some (.int .i64 a0_4) := (blk_cell BK216.out 4).trans rfl; have hcz77_5 : wc.cell? ⟨gb216, 5, none⟩ = some (.string a0_5) := (blk_cell BK216.out 5).trans rfl; have hcz77_6 : wc.cell? ⟨gb216, 6, none⟩ = some (.string a0_6) := (blk_cell BK216.out 6).trans rfl; have hcz77_7 : wc.cell? ⟨gb216, 7, none⟩ = some (.string a0_7) := (blk_cell BK216.out 7).trans rfl; have hcz77_8 : wc.cell? ⟨gb216, 8, none⟩ = some (.slice A0_8 l0_8.length c0_8) := (blk_cell BK216.out 8).trans rfl; have hfz77_0 := blk_frozen BK216.out 0; have hfz77_1 := blk_frozen BK216.out 1; have hfz77_2 := blk_frozen BK216.out 2; have hfz77_3 := blk_frozen BK216.out 3; have hfz77_4 := blk_frozen BK216.out 4; have hfz77_5 := blk_frozen BK216.out 5; have hfz77_6 := blk_frozen BK216.out 6; have hfz77_7 := blk_frozen BK216.out 7; have hfz77_8 := blk_frozen BK216.out 8) | (go_at_call 48; (with_reducible refine (secateurref07_within.calls a0_1 a1 true _ A61.out).mono ?_); rintro e w' ⟨rfl, ⟨nd, rfl⟩⟩) | (go_at_call 32; (with_reducible refine (secateurref07_Has.calls t217 98 true _ A63.out).mono ?_); rintro e w' ⟨rfl, ⟨nd, rfl⟩⟩) | (go_at_call 48; (with_reducible refine (secateurref07_within.calls a0_2 a1 true _ A65.out).mono ?_); rintro e w' ⟨rfl, ⟨nd, rfl⟩⟩) | (go_at_call 32; (with_reducible refine (secateurref07_Has.calls t217 99 false _ A67.out).mono ?_); rintro e w' ⟨rfl, ⟨nd, rfl⟩⟩))
                            go_meet
                            case rel => exact ⟨_, (false), (by first | rfl | (simp; done) | (simp [*]; done)), H', ⟨by have := HJ4.out; have := HJ22.out; first | omega | exact Nat.le_refl _⟩, ⟨by (with_reducible repeat (first | refine blk_drewN ?_ _ | refine blk_drew ?_ | refine blk_alloc ?_ _)); exact BK216.out⟩, ⟨by repeat (first | (with_reducible first | exact HB.out | apply below_alloc | apply pw_below_drewN | apply below_drew1 | refine below_set ?_ GE216.out) | exact HB.out)⟩⟩
                    · replace c66 := Bool.eq_false_iff.mpr c66
                      subst c66
                      have H1 : (secateurref07_Fits.j2 kj22 a1 a2 t217 true a0_0 a0_1 a0_2 a0_3 a0_4 a0_5 a0_6 a0_7 l0_8) = some r := by rw [if_neg (show ¬ (false = true) by decide)] at H; exact H
                      clear H
                      have H := H1
                      clear H1
                      as_aux_lemma =>
                        have H' := Aside0.mk H
                        clear H
                        go_wp2_with (first | ((with_reducible refine gate_callee (f := 32) rfl ?_); refine goesL_ (some 63) rfl rfl Tryd.func32 (by kernel_rfl) rfl #[.string t217, .int .u8 97] rfl (by (try simp only [List.map_toArray, List.map_cons, List.map_nil]); first | done | rfl | (simp only [List.length_drop, List.length_take]; rfl)) ?_; (with_reducible refine (secateurref07_Has.calls t217 97 true _ A59.out).mono ?_); rintro e w' ⟨rfl, ⟨nd, rfl⟩⟩; refine ⟨_, rfl, ?_⟩; have hcz78_0 : wc.cell? ⟨gb216, 0, none⟩ = some (.int .i64 a0_0) := (blk_cell BK216.out 0).trans rfl; have hcz78_1 : wc.cell? ⟨gb216, 1, none⟩ = some (.int .i64 a0_1) := (blk_cell BK216.out 1).trans rfl; have hcz78_2 : wc.cell? ⟨gb216, 2, none⟩ = some (.int .i64 a0_2) := (blk_cell BK216.out 2).trans rfl; have hcz78_3 : wc.cell? ⟨gb216, 3, none⟩ = some (.int .i64 a0_3) := (blk_cell BK216.out 3).trans rfl; have hcz78_4 : wc.cell? ⟨gb216, 4, none⟩ = some (.int .i64 a0_4) := (blk_cell BK216.out 4).trans rfl; have hcz78_5 : wc.cell? ⟨gb216, 5, none⟩ = some (.string a0_5) := (blk_cell BK216.out 5).trans rfl; have hcz78_6 : wc.cell? ⟨gb216, 6, none⟩ = some (.string a0_6) := (blk_cell BK216.out 6).trans rfl; have hcz78_7 : wc.cell? ⟨gb216, 7, none⟩ = some (.string a0_7) := (blk_cell BK216.out 7).trans rfl; have hcz78_8 : wc.cell? ⟨gb216, 8, none⟩ = some (.slice A0_8 l0_8.length c0_8) := (blk_cell BK216.out 8).trans rfl; have hfz78_0 := blk_frozen BK216.out 0; have hfz78_1 := blk_frozen BK216.out 1; have hfz78_2 := blk_frozen BK216.out 2; have hfz78_3 := blk_frozen BK216.out 3; have hfz78_4 := blk_frozen BK216.out 4; have hfz78_5 := blk_frozen BK216.out 5; have hfz78_6 := blk_frozen BK216.out 6; have hfz78_7 := blk_frozen BK216.out 7; have hfz78_8 := blk_frozen BK216.out 8) | (go_at_call 48; (with_reducible refine (secateurref07_within.calls a0_1 a1 true _ A61.out).mono ?_); rintro e w' ⟨rfl, ⟨nd, rfl⟩⟩) | (go_at_call 32; (with_reducible refine (secateurref07_Has.calls t217 98 true _ A63.out).mono ?_); rintro e w' ⟨rfl, ⟨nd, rfl⟩⟩) | (go_at_call 48; (with_reducible refine (secateurref07_within.calls a0_2 a1 false _ A65.out).mono ?_); rintro e w' ⟨rfl, ⟨nd, rfl⟩⟩))
                        go_meet
                        case rel => exact ⟨_, (true), (by first | rfl | (simp; done) | (simp [*]; done)), H', ⟨by have := HJ4.out; have := HJ22.out; first | omega | exact Nat.le_refl _⟩, ⟨by (with_reducible repeat (first | refine blk_drewN ?_ _ | refine blk_drew ?_ | refine blk_alloc ?_ _)); exact BK216.out⟩, ⟨by repeat (first | (with_reducible first | exact HB.out | apply below_alloc | apply pw_below_drewN | apply below_drew1 | refine below_set ?_ GE216.out) | exact HB.out)⟩⟩
                  · replace c64 := Bool.eq_false_iff.mpr c64
                    subst c64
                    have H1 : ((secateurref07_Has.f t217 99).bind fun t234 => (if t234 = true then ((secateurref07_within.f a0_3 a1).bind fun t235 => (if t235 = true then (if x8_22 = true then (secateurref07_Fits.j2 kj22 a1 a2 t217 (a0_1 != 0) a0_0 a0_1 a0_2 a0_3 a0_4 a0_5 a0_6 a0_7 l0_8) else (secateurref07_Fits.j2 kj22 a1 a2 t217 false a0_0 a0_1 a0_2 a0_3 a0_4 a0_5 a0_6 a0_7 l0_8)) else (secateurref07_Fits.j2 kj22 a1 a2 t217 true a0_0 a0_1 a0_2 a0_3 a0_4 a0_5 a0_6 a0_7 l0_8))) else (if x8_22 = true then (secateurref07_Fits.j2 kj22 a1 a2 t217 (a0_1 != 0) a0_0 a0_1 a0_2 a0_3 a0_4 a0_5 a0_6 a0_7 l0_8) else (secateurref07_Fits.j2 kj22 a1 a2 t217 false a0_0 a0_1 a0_2 a0_3 a0_4 a0_5 a0_6 a0_7 l0_8)))) = some r := by rw [if_neg (show ¬ (false = true) by decide)] at H; exact H
                    clear H
                    have H := H1
                    clear H1
                    replace H := Option.bind_eq_some_iff.mp H
                    obtain ⟨t234, A790, H⟩ := H
                    replace H : (if t234 = true then ((secateurref07_within.f a0_3 a1).bind fun t235 => (if t235 = true then (if x8_22 = true then (secateurref07_Fits.j2 kj22 a1 a2 t217 (a0_1 != 0) a0_0 a0_1 a0_2 a0_3 a0_4 a0_5 a0_6 a0_7 l0_8) else (secateurref07_Fits.j2 kj22 a1 a2 t217 false a0_0 a0_1 a0_2 a0_3 a0_4 a0_5 a0_6 a0_7 l0_8)) else (secateurref07_Fits.j2 kj22 a1 a2 t217 true a0_0 a0_1 a0_2 a0_3 a0_4 a0_5 a0_6 a0_7 l0_8))) else (if x8_22 = true then (secateurref07_Fits.j2 kj22 a1 a2 t217 (a0_1 != 0) a0_0 a0_1 a0_2 a0_3 a0_4 a0_5 a0_6 a0_7 l0_8) else (secateurref07_Fits.j2 kj22 a1 a2 t217 false a0_0 a0_1 a0_2 a0_3 a0_4 a0_5 a0_6 a0_7 l0_8))) = some r := H
                    have A79 := Aside0.mk A790
                    clear A790
                    by_cases c80 : t234 = true
                    · subst c80
                      have H1 : ((secateurref07_within.f a0_3 a1).bind fun t235 => (if t235 = true then (if x8_22 = true then (secateurref07_Fits.j2 kj22 a1 a2 t217 (a0_1 != 0) a0_0 a0_1 a0_2 a0_3 a0_4 a0_5 a0_6 a0_7 l0_8) else (secateurref07_Fits.j2 kj22 a1 a2 t217 false a0_0 a0_1 a0_2 a0_3 a0_4 a0_5 a0_6 a0_7 l0_8)) else (secateurref07_Fits.j2 kj22 a1 a2 t217 true a0_0 a0_1 a0_2 a0_3 a0_4 a0_5 a0_6 a0_7 l0_8))) = some r := by rw [if_pos rfl] at H; exact H
                      clear H
                      have H := H1
                      clear H1
                      replace H := Option.bind_eq_some_iff.mp H
                      obtain ⟨t235, A810, H⟩ := H
                      replace H : (if t235 = true then (if x8_22 = true then (secateurref07_Fits.j2 kj22 a1 a2 t217 (a0_1 != 0) a0_0 a0_1 a0_2 a0_3 a0_4 a0_5 a0_6 a0_7 l0_8) else (secateurref07_Fits.j2 kj22 a1 a2 t217 false a0_0 a0_1 a0_2 a0_3 a0_4 a0_5 a0_6 a0_7 l0_8)) else (secateurref07_Fits.j2 kj22 a1 a2 t217 true a0_0 a0_1 a0_2 a0_3 a0_4 a0_5 a0_6 a0_7 l0_8)) = some r := H
                      have A81 := Aside0.mk A810
                      clear A810
                      by_cases c82 : t235 = true
                      · subst c82
                        have H1 : (if x8_22 = true then (secateurref07_Fits.j2 kj22 a1 a2 t217 (a0_1 != 0) a0_0 a0_1 a0_2 a0_3 a0_4 a0_5 a0_6 a0_7 l0_8) else (secateurref07_Fits.j2 kj22 a1 a2 t217 false a0_0 a0_1 a0_2 a0_3 a0_4 a0_5 a0_6 a0_7 l0_8)) = some r := by rw [if_pos rfl] at H; exact H
                        clear H
                        have H := H1
                        clear H1
                        by_cases c83 : x8_22 = true
                        · subst c83
                          have H1 : (secateurref07_Fits.j2 kj22 a1 a2 t217 (a0_1 != 0) a0_0 a0_1 a0_2 a0_3 a0_4 a0_5 a0_6 a0_7 l0_8) = some r := by rw [if_pos rfl] at H; exact H
                          clear H
                          have H := H1
                          clear H1
                          as_aux_lemma =>
                            have H' := Aside0.mk H
                            clear H
                            go_wp2_with (first | ((with_reducible refine gate_callee (f := 32) rfl ?_); refine goesL_ (some 63) rfl rfl Tryd.func32 (by kernel_rfl) rfl #[.string t217, .int .u8 97] rfl (by (try simp only [List.map_toArray, List.map_cons, List.map_nil]); first | done | rfl | (simp only [List.length_drop, List.length_take]; rfl)) ?_; (with_reducible refine (secateurref07_Has.calls t217 97 true _ A59.out).mono ?_); rintro e w' ⟨rfl, ⟨nd, rfl⟩⟩; refine ⟨_, rfl, ?_⟩; have hcz84_0 : wc.cell? ⟨gb216, 0, none⟩ = some (.int .i64 a0_0) := (blk_cell BK216.out 0).trans rfl; have hcz84_1 : wc.cell? ⟨gb216, 1, none⟩ = some (.int .i64 a0_1) := (blk_cell BK216.out 1).trans rfl; have hcz84_2 : wc.cell? ⟨gb216, 2, none⟩ = some (.int .i64 a0_2) := (blk_cell BK216.out 2).trans rfl; have hcz84_3 : wc.cell? ⟨gb216, 3, none⟩ = some (.int .i64 a0_3) := (blk_cell BK216.out 3).trans rfl; have hcz84_4 : wc.cell? ⟨gb216, 4, none⟩ = some (.int .i64 a0_4) := (blk_cell BK216.out 4).trans rfl; have hcz84_5 : wc.cell? ⟨gb216, 5, none⟩ = some (.string a0_5) := (blk_cell BK216.out 5).trans rfl; have hcz84_6 : wc.cell? ⟨gb216, 6, none⟩ = some (.string a0_6) := (blk_cell BK216.out 6).trans rfl; have hcz84_7 : wc.cell? ⟨gb216, 7, none⟩ = some (.string a0_7) := (blk_cell BK216.out 7).trans rfl; have hcz84_8 : wc.cell? ⟨gb216, 8, none⟩ = some (.slice A0_8 l0_8.length c0_8) := (blk_cell BK216.out 8).trans rfl; have hfz84_0 := blk_frozen BK216.out 0; have hfz84_1 := blk_frozen BK216.out 1; have hfz84_2 := blk_frozen BK216.out 2; have hfz84_3 := blk_frozen BK216.out 3; have hfz84_4 := blk_frozen BK216.out 4; have hfz84_5 := blk_frozen BK216.out 5; have hfz84_6 := blk_frozen BK216.out 6; have hfz84_7 := blk_frozen BK216.out 7; have hfz84_8 := blk_frozen BK216.out 8) | (go_at_call 48; (with_reducible refine (secateurref07_within.calls a0_1 a1 true _ A61.out).mono ?_); rintro e w' ⟨rfl, ⟨nd, rfl⟩⟩) | (go_at_call 32; (with_reducible refine (secateurref07_Has.calls t217 98 false _ A63.out).mono ?_); rintro e w' ⟨rfl, ⟨nd, rfl⟩⟩) | (go_at_call 32; (with_reducible refine (secateurref07_Has.calls t217 99 true _ A79.out).mono ?_); rintro e w' ⟨rfl, ⟨nd, rfl⟩⟩) | (go_at_call 48; (with_reducible refine (secateurref07_within.calls a0_3 a1 true _ A81.out).mono ?_); rintro e w' ⟨rfl, ⟨nd, rfl⟩⟩))
                            go_meet
                            case rel => exact ⟨_, ((a0_1 != 0)), (by first | rfl | (simp; done) | (simp [*]; done)), H', ⟨by have := HJ4.out; have := HJ22.out; first | omega | exact Nat.le_refl _⟩, ⟨by (with_reducible repeat (first | refine blk_drewN ?_ _ | refine blk_drew ?_ | refine blk_alloc ?_ _)); exact BK216.out⟩, ⟨by repeat (first | (with_reducible first | exact HB.out | apply below_alloc | apply pw_below_drewN | apply below_drew1 | refine below_set ?_ GE216.out) | exact HB.out)⟩⟩
                        · replace c83 := Bool.eq_false_iff.mpr c83
                          subst c83
                          have H1 : (secateurref07_Fits.j2 kj22 a1 a2 t217 false a0_0 a0_1 a0_2 a0_3 a0_4 a0_5 a0_6 a0_7 l0_8) = some r := by rw [if_neg (show ¬ (false = true) by decide)] at H; exact H
                          clear H
                          have H := H1
                          clear H1
                          as_aux_lemma =>
                            have H' := Aside0.mk H
                            clear H
                            go_wp2_with (first | ((with_reducible refine gate_callee (f := 32) rfl ?_); refine goesL_ (some 63) rfl rfl Tryd.func32 (by kernel_rfl) rfl #[.string t217, .int .u8 97] rfl (by (try simp only [List.map_toArray, List.map_cons, List.map_nil]); first | done | rfl | (simp only [List.length_drop, List.length_take]; rfl)) ?_; (with_reducible refine (secateurref07_Has.calls t217 97 true _ A59.out).mono ?_); rintro e w' ⟨rfl, ⟨nd, rfl⟩⟩; refine ⟨_, rfl, ?_⟩; have hcz85_0 : wc.cell? ⟨gb216, 0, none⟩ = some (.int .i64 a0_0) := (blk_cell BK216.out 0).trans rfl; have hcz85_1 : wc.cell? ⟨gb216, 1, none⟩ = some (.int .i64 a0_1) := (blk_cell BK216.out 1).trans rfl; have hcz85_2 : wc.cell? ⟨gb216, 2, none⟩ = some (.int .i64 a0_2) := (blk_cell BK216.out 2).trans rfl; have hcz85_3 : wc.cell? ⟨gb216, 3, none⟩ = some (.int .i64 a0_3) := (blk_cell BK216.out 3).trans rfl; have hcz85_4 : wc.cell? ⟨gb216, 4, none⟩ = some (.int .i64 a0_4) := (blk_cell BK216.out 4).trans rfl; have hcz85_5 : wc.cell? ⟨gb216, 5, none⟩ = some (.string a0_5) := (blk_cell BK216.out 5).trans rfl; have hcz85_6 : wc.cell? ⟨gb216, 6, none⟩ = some (.string a0_6) := (blk_cell BK216.out 6).trans rfl; have hcz85_7 : wc.cell? ⟨gb216, 7, none⟩ = some (.string a0_7) := (blk_cell BK216.out 7).trans rfl; have hcz85_8 : wc.cell? ⟨gb216, 8, none⟩ = some (.slice A0_8 l0_8.length c0_8) := (blk_cell BK216.out 8).trans rfl; have hfz85_0 := blk_frozen BK216.out 0; have hfz85_1 := blk_frozen BK216.out 1; have hfz85_2 := blk_frozen BK216.out 2; have hfz85_3 := blk_frozen BK216.out 3; have hfz85_4 := blk_frozen BK216.out 4; have hfz85_5 := blk_frozen BK216.out 5; have hfz85_6 := blk_frozen BK216.out 6; have hfz85_7 := blk_frozen BK216.out 7; have hfz85_8 := blk_frozen BK216.out 8) | (go_at_call 48; (with_reducible refine (secateurref07_within.calls a0_1 a1 true _ A61.out).mono ?_); rintro e w' ⟨rfl, ⟨nd, rfl⟩⟩) | (go_at_call 32; (with_reducible refine (secateurref07_Has.calls t217 98 false _ A63.out).mono ?_); rintro e w' ⟨rfl, ⟨nd, rfl⟩⟩) | (go_at_call 32; (with_reducible refine (secateurref07_Has.calls t217 99 true _ A79.out).mono ?_); rintro e w' ⟨rfl, ⟨nd, rfl⟩⟩) | (go_at_call 48; (with_reducible refine (secateurref07_within.calls a0_3 a1 true _ A81.out).mono ?_); rintro e w' ⟨rfl, ⟨nd, rfl⟩⟩))
                            go_meet
                            case rel => exact ⟨_, (false), (by first | rfl | (simp; done) | (simp [*]; done)), H', ⟨by have := HJ4.out; have := HJ22.out; first | omega | exact Nat.le_refl _⟩, ⟨by (with_reducible repeat (first | refine blk_drewN ?_ _ | refine blk_drew ?_ | refine blk_alloc ?_ _)); exact BK216.out⟩, ⟨by repeat (first | (with_reducible first | exact HB.out | apply below_alloc | apply pw_below_drewN | apply below_drew1 | refine below_set ?_ GE216.out) | exact HB.out)⟩⟩
                      · replace c82 := Bool.eq_false_iff.mpr c82
                        subst c82
                        have H1 : (secateurref07_Fits.j2 kj22 a1 a2 t217 true a0_0 a0_1 a0_2 a0_3 a0_4 a0_5 a0_6 a0_7 l0_8) = some r := by rw [if_neg (show ¬ (false = true) by decide)] at H; exact H
                        clear H
                        have H := H1
                        clear H1
                        as_aux_lemma =>
                          have H' := Aside0.mk H
                          clear H
                          go_wp2_with (first | ((with_reducible refine gate_callee (f := 32) rfl ?_); refine goesL_ (some 63) rfl rfl Tryd.func32 (by kernel_rfl) rfl #[.string t217, .int .u8 97] rfl (by (try simp only [List.map_toArray, List.map_cons, List.map_nil]); first | done | rfl | (simp only [List.length_drop, List.length_take]; rfl)) ?_; (with_reducible refine (secateurref07_Has.calls t217 97 true _ A59.out).mono ?_); rintro e w' ⟨rfl, ⟨nd, rfl⟩⟩; refine ⟨_, rfl, ?_⟩; have hcz86_0 : wc.cell? ⟨gb216, 0, none⟩ = some (.int .i64 a0_0) := (blk_cell BK216.out 0).trans rfl; have hcz86_1 : wc.cell? ⟨gb216, 1, none⟩ = some (.int .i64 a0_1) := (blk_cell BK216.out 1).trans rfl; have hcz86_2 : wc.cell? ⟨gb216, 2, none⟩ = some (.int .i64 a0_2) := (blk_cell BK216.out 2).trans rfl; have hcz86_3 : wc.cell? ⟨gb216, 3, none⟩ = some (.int .i64 a0_3) := (blk_cell BK216.out 3).trans rfl; have hcz86_4 : wc.cell? ⟨gb216, 4, none⟩ = some (.int .i64 a0_4) := (blk_cell BK216.out 4).trans rfl; have hcz86_5 : wc.cell? ⟨gb216, 5, none⟩ = some (.string a0_5) := (blk_cell BK216.out 5).trans rfl; have hcz86_6 : wc.cell? ⟨gb216, 6, none⟩ = some (.string a0_6) := (blk_cell BK216.out 6).trans rfl; have hcz86_7 : wc.cell? ⟨gb216, 7, none⟩ = some (.string a0_7) := (blk_cell BK216.out 7).trans rfl; have hcz86_8 : wc.cell? ⟨gb216, 8, none⟩ = some (.slice A0_8 l0_8.length c0_8) := (blk_cell BK216.out 8).trans rfl; have hfz86_0 := blk_frozen BK216.out 0; have hfz86_1 := blk_frozen BK216.out 1; have hfz86_2 := blk_frozen BK216.out 2; have hfz86_3 := blk_frozen BK216.out 3; have hfz86_4 := blk_frozen BK216.out 4; have hfz86_5 := blk_frozen BK216.out 5; have hfz86_6 := blk_frozen BK216.out 6; have hfz86_7 := blk_frozen BK216.out 7; have hfz86_8 := blk_frozen BK216.out 8) | (go_at_call 48; (with_reducible refine (secateurref07_within.calls a0_1 a1 true _ A61.out).mono ?_); rintro e w' ⟨rfl, ⟨nd, rfl⟩⟩) | (go_at_call 32; (with_reducible refine (secateurref07_Has.calls t217 98 false _ A63.out).mono ?_); rintro e w' ⟨rfl, ⟨nd, rfl⟩⟩) | (go_at_call 32; (with_reducible refine (secateurref07_Has.calls t217 99 true _ A79.out).mono ?_); rintro e w' ⟨rfl, ⟨nd, rfl⟩⟩) | (go_at_call 48; (with_reducible refine (secateurref07_within.calls a0_3 a1 false _ A81.out).mono ?_); rintro e w' ⟨rfl, ⟨nd, rfl⟩⟩))
                          go_meet
                          case rel => exact ⟨_, (true), (by first | rfl | (simp; done) | (simp [*]; done)), H', ⟨by have := HJ4.out; have := HJ22.out; first | omega | exact Nat.le_refl _⟩, ⟨by (with_reducible repeat (first | refine blk_drewN ?_ _ | refine blk_drew ?_ | refine blk_alloc ?_ _)); exact BK216.out⟩, ⟨by repeat (first | (with_reducible first | exact HB.out | apply below_alloc | apply pw_below_drewN | apply below_drew1 | refine below_set ?_ GE216.out) | exact HB.out)⟩⟩
                    · replace c80 := Bool.eq_false_iff.mpr c80
                      subst c80
                      have H1 : (if x8_22 = true then (secateurref07_Fits.j2 kj22 a1 a2 t217 (a0_1 != 0) a0_0 a0_1 a0_2 a0_3 a0_4 a0_5 a0_6 a0_7 l0_8) else (secateurref07_Fits.j2 kj22 a1 a2 t217 false a0_0 a0_1 a0_2 a0_3 a0_4 a0_5 a0_6 a0_7 l0_8)) = some r := by rw [if_neg (show ¬ (false = true) by decide)] at H; exact H
                      clear H
                      have H := H1
                      clear H1
                      by_cases c87 : x8_22 = true
                      · subst c87
                        have H1 : (secateurref07_Fits.j2 kj22 a1 a2 t217 (a0_1 != 0) a0_0 a0_1 a0_2 a0_3 a0_4 a0_5 a0_6 a0_7 l0_8) = some r := by rw [if_pos rfl] at H; exact H
                        clear H
                        have H := H1
                        clear H1
                        as_aux_lemma =>
                          have H' := Aside0.mk H
                          clear H
                          go_wp2_with (first | ((with_reducible refine gate_callee (f := 32) rfl ?_); refine goesL_ (some 63) rfl rfl Tryd.func32 (by kernel_rfl) rfl #[.string t217, .int .u8 97] rfl (by (try simp only [List.map_toArray, List.map_cons, List.map_nil]); first | done | rfl | (simp only [List.length_drop, List.length_take]; rfl)) ?_; (with_reducible refine (secateurref07_Has.calls t217 97 true _ A59.out).mono ?_); rintro e w' ⟨rfl, ⟨nd, rfl⟩⟩; refine ⟨_, rfl, ?_⟩; have hcz88_0 : wc.cell? ⟨gb216, 0, none⟩ = some (.int .i64 a0_0) := (blk_cell BK216.out 0).trans rfl; have hcz88_1 : wc.cell? ⟨gb216, 1, none⟩ = some (.int .i64 a0_1) := (blk_cell BK216.out 1).trans rfl; have hcz88_2 : wc.cell? ⟨gb216, 2, none⟩ = some (.int .i64 a0_2) := (blk_cell BK216.out 2).trans rfl; have hcz88_3 : wc.cell? ⟨gb216, 3, none⟩ = some (.int .i64 a0_3) := (blk_cell BK216.out 3).trans rfl; have hcz88_4 : wc.cell? ⟨gb216, 4, none⟩ = some (.int .i64 a0_4) := (blk_cell BK216.out 4).trans rfl; have hcz88_5 : wc.cell? ⟨gb216, 5, none⟩ = some (.string a0_5) := (blk_cell BK216.out 5).trans rfl; have hcz88_6 : wc.cell? ⟨gb216, 6, none⟩ = some (.string a0_6) := (blk_cell BK216.out 6).trans rfl; have hcz88_7 : wc.cell? ⟨gb216, 7, none⟩ = some (.string a0_7) := (blk_cell BK216.out 7).trans rfl; have hcz88_8 : wc.cell? ⟨gb216, 8, none⟩ = some (.slice A0_8 l0_8.length c0_8) := (blk_cell BK216.out 8).trans rfl; have hfz88_0 := blk_frozen BK216.out 0; have hfz88_1 := blk_frozen BK216.out 1; have hfz88_2 := blk_frozen BK216.out 2; have hfz88_3 := blk_frozen BK216.out 3; have hfz88_4 := blk_frozen BK216.out 4; have hfz88_5 := blk_frozen BK216.out 5; have hfz88_6 := blk_frozen BK216.out 6; have hfz88_7 := blk_frozen BK216.out 7; have hfz88_8 := blk_frozen BK216.out 8) | (go_at_call 48; (with_reducible refine (secateurref07_within.calls a0_1 a1 true _ A61.out).mono ?_); rintro e w' ⟨rfl, ⟨nd, rfl⟩⟩) | (go_at_call 32; (with_reducible refine (secateurref07_Has.calls t217 98 false _ A63.out).mono ?_); rintro e w' ⟨rfl, ⟨nd, rfl⟩⟩) | (go_at_call 32; (with_reducible refine (secateurref07_Has.calls t217 99 false _ A79.out).mono ?_); rintro e w' ⟨rfl, ⟨nd, rfl⟩⟩))
                          go_meet
                          case rel => exact ⟨_, ((a0_1 != 0)), (by first | rfl | (simp; done) | (simp [*]; done)), H', ⟨by have := HJ4.out; have := HJ22.out; first | omega | exact Nat.le_refl _⟩, ⟨by (with_reducible repeat (first | refine blk_drewN ?_ _ | refine blk_drew ?_ | refine blk_alloc ?_ _)); exact BK216.out⟩, ⟨by repeat (first | (with_reducible first | exact HB.out | apply below_alloc | apply pw_below_drewN | apply below_drew1 | refine below_set ?_ GE216.out) | exact HB.out)⟩⟩
                      · replace c87 := Bool.eq_false_iff.mpr c87
                        subst c87
                        have H1 : (secateurref07_Fits.j2 kj22 a1 a2 t217 false a0_0 a0_1 a0_2 a0_3 a0_4 a0_5 a0_6 a0_7 l0_8) = some r := by rw [if_neg (show ¬ (false = true) by decide)] at H; exact H
                        clear H
                        have H := H1
                        clear H1
                        as_aux_lemma =>
                          have H' := Aside0.mk H
                          clear H
                          go_wp2_with (first | ((with_reducible refine gate_callee (f := 32) rfl ?_); refine goesL_ (some 63) rfl rfl Tryd.func32 (by kernel_rfl) rfl #[.string t217, .int .u8 97] rfl (by (try simp only [List.map_toArray, List.map_cons, List.map_nil]); first | done | rfl | (simp only [List.length_drop, List.length_take]; rfl)) ?_; (with_reducible refine (secateurref07_Has.calls t217 97 true _ A59.out).mono ?_); rintro e w' ⟨rfl, ⟨nd, rfl⟩⟩; refine ⟨_, rfl, ?_⟩; have hcz89_0 : wc.cell? ⟨gb216, 0, none⟩ = some (.int .i64 a0_0) := (blk_cell BK216.out 0).trans rfl; have hcz89_1 : wc.cell? ⟨gb216, 1, none⟩ = some (.int .i64 a0_1) := (blk_cell BK216.out 1).trans rfl; have hcz89_2 : wc.cell? ⟨gb216, 2, none⟩ = some (.int .i64 a0_2) := (blk_cell BK216.out 2).trans rfl; have hcz89_3 : wc.cell? ⟨gb216, 3, none⟩ = some (.int .i64 a0_3) := (blk_cell BK216.out 3).trans rfl; have hcz89_4 : wc.cell? ⟨gb216, 4, none⟩ = some (.int .i64 a0_4) := (blk_cell BK216.out 4).trans rfl; have hcz89_5 : wc.cell? ⟨gb216, 5, none⟩ = some (.string a0_5) := (blk_cell BK216.out 5).trans rfl; have hcz89_6 : wc.cell? ⟨gb216, 6, none⟩ = some (.string a0_6) := (blk_cell BK216.out 6).trans rfl; have hcz89_7 : wc.cell? ⟨gb216, 7, none⟩ = some (.string a0_7) := (blk_cell BK216.out 7).trans rfl; have hcz89_8 : wc.cell? ⟨gb216, 8, none⟩ = some (.slice A0_8 l0_8.length c0_8) := (blk_cell BK216.out 8).trans rfl; have hfz89_0 := blk_frozen BK216.out 0; have hfz89_1 := blk_frozen BK216.out 1; have hfz89_2 := blk_frozen BK216.out 2; have hfz89_3 := blk_frozen BK216.out 3; have hfz89_4 := blk_frozen BK216.out 4; have hfz89_5 := blk_frozen BK216.out 5; have hfz89_6 := blk_frozen BK216.out 6; have hfz89_7 := blk_frozen BK216.out 7; have hfz89_8 := blk_frozen BK216.out 8) | (go_at_call 48; (with_reducible refine (secateurref07_within.calls a0_1 a1 true _ A61.out).mono ?_); rintro e w' ⟨rfl, ⟨nd, rfl⟩⟩) | (go_at_call 32; (with_reducible refine (secateurref07_Has.calls t217 98 false _ A63.out).mono ?_); rintro e w' ⟨rfl, ⟨nd, rfl⟩⟩) | (go_at_call 32; (with_reducible refine (secateurref07_Has.calls t217 99 false _ A79.out).mono ?_); rintro e w' ⟨rfl, ⟨nd, rfl⟩⟩))
                          go_meet
                          case rel => exact ⟨_, (false), (by first | rfl | (simp; done) | (simp [*]; done)), H', ⟨by have := HJ4.out; have := HJ22.out; first | omega | exact Nat.le_refl _⟩, ⟨by (with_reducible repeat (first | refine blk_drewN ?_ _ | refine blk_drew ?_ | refine blk_alloc ?_ _)); exact BK216.out⟩, ⟨by repeat (first | (with_reducible first | exact HB.out | apply below_alloc | apply pw_below_drewN | apply below_drew1 | refine below_set ?_ GE216.out) | exact HB.out)⟩⟩
                · replace c62 := Bool.eq_false_iff.mpr c62
                  subst c62
                  have H1 : (secateurref07_Fits.j2 kj22 a1 a2 t217 true a0_0 a0_1 a0_2 a0_3 a0_4 a0_5 a0_6 a0_7 l0_8) = some r := by rw [if_neg (show ¬ (false = true) by decide)] at H; exact H
                  clear H
                  have H := H1
                  clear H1
                  as_aux_lemma =>
                    have H' := Aside0.mk H
                    clear H
                    go_wp2_with (first | ((with_reducible refine gate_callee (f := 32) rfl ?_); refine goesL_ (some 63) rfl rfl Tryd.func32 (by kernel_rfl) rfl #[.string t217, .int .u8 97] rfl (by (try simp only [List.map_toArray, List.map_cons, List.map_nil]); first | done | rfl | (simp only [List.length_drop, List.length_take]; rfl)) ?_; (with_reducible refine (secateurref07_Has.calls t217 97 true _ A59.out).mono ?_); rintro e w' ⟨rfl, ⟨nd, rfl⟩⟩; refine ⟨_, rfl, ?_⟩; have hcz90_0 : wc.cell? ⟨gb216, 0, none⟩ = some (.int .i64 a0_0) := (blk_cell BK216.out 0).trans rfl; have hcz90_1 : wc.cell? ⟨gb216, 1, none⟩ = some (.int .i64 a0_1) := (blk_cell BK216.out 1).trans rfl; have hcz90_2 : wc.cell? ⟨gb216, 2, none⟩ = some (.int .i64 a0_2) := (blk_cell BK216.out 2).trans rfl; have hcz90_3 : wc.cell? ⟨gb216, 3, none⟩ = some (.int .i64 a0_3) := (blk_cell BK216.out 3).trans rfl; have hcz90_4 : wc.cell? ⟨gb216, 4, none⟩ = some (.int .i64 a0_4) := (blk_cell BK216.out 4).trans rfl; have hcz90_5 : wc.cell? ⟨gb216, 5, none⟩ = some (.string a0_5) := (blk_cell BK216.out 5).trans rfl; have hcz90_6 : wc.cell? ⟨gb216, 6, none⟩ = some (.string a0_6) := (blk_cell BK216.out 6).trans rfl; have hcz90_7 : wc.cell? ⟨gb216, 7, none⟩ = some (.string a0_7) := (blk_cell BK216.out 7).trans rfl; have hcz90_8 : wc.cell? ⟨gb216, 8, none⟩ = some (.slice A0_8 l0_8.length c0_8) := (blk_cell BK216.out 8).trans rfl; have hfz90_0 := blk_frozen BK216.out 0; have hfz90_1 := blk_frozen BK216.out 1; have hfz90_2 := blk_frozen BK216.out 2; have hfz90_3 := blk_frozen BK216.out 3; have hfz90_4 := blk_frozen BK216.out 4; have hfz90_5 := blk_frozen BK216.out 5; have hfz90_6 := blk_frozen BK216.out 6; have hfz90_7 := blk_frozen BK216.out 7; have hfz90_8 := blk_frozen BK216.out 8) | (go_at_call 48; (with_reducible refine (secateurref07_within.calls a0_1 a1 false _ A61.out).mono ?_); rintro e w' ⟨rfl, ⟨nd, rfl⟩⟩))
                    go_meet
                    case rel => exact ⟨_, (true), (by first | rfl | (simp; done) | (simp [*]; done)), H', ⟨by have := HJ4.out; have := HJ22.out; first | omega | exact Nat.le_refl _⟩, ⟨by (with_reducible repeat (first | refine blk_drewN ?_ _ | refine blk_drew ?_ | refine blk_alloc ?_ _)); exact BK216.out⟩, ⟨by repeat (first | (with_reducible first | exact HB.out | apply below_alloc | apply pw_below_drewN | apply below_drew1 | refine below_set ?_ GE216.out) | exact HB.out)⟩⟩
              · replace c60 := Bool.eq_false_iff.mpr c60
                subst c60
                have H1 : ((secateurref07_Has.f t217 98).bind fun t236 => (if t236 = true then ((secateurref07_within.f a0_2 a1).bind fun t237 => (if t237 = true then ((secateurref07_Has.f t217 99).bind fun t238 => (if t238 = true then ((secateurref07_within.f a0_3 a1).bind fun t239 => (if t239 = true then (if x8_22 = true then (secateurref07_Fits.j2 kj22 a1 a2 t217 (a0_1 != 0) a0_0 a0_1 a0_2 a0_3 a0_4 a0_5 a0_6 a0_7 l0_8) else (secateurref07_Fits.j2 kj22 a1 a2 t217 false a0_0 a0_1 a0_2 a0_3 a0_4 a0_5 a0_6 a0_7 l0_8)) else (secateurref07_Fits.j2 kj22 a1 a2 t217 true a0_0 a0_1 a0_2 a0_3 a0_4 a0_5 a0_6 a0_7 l0_8))) else (if x8_22 = true then (secateurref07_Fits.j2 kj22 a1 a2 t217 (a0_1 != 0) a0_0 a0_1 a0_2 a0_3 a0_4 a0_5 a0_6 a0_7 l0_8) else (secateurref07_Fits.j2 kj22 a1 a2 t217 false a0_0 a0_1 a0_2 a0_3 a0_4 a0_5 a0_6 a0_7 l0_8)))) else (secateurref07_Fits.j2 kj22 a1 a2 t217 true a0_0 a0_1 a0_2 a0_3 a0_4 a0_5 a0_6 a0_7 l0_8))) else ((secateurref07_Has.f t217 99).bind fun t240 => (if t240 = true then ((secateurref07_within.f a0_3 a1).bind fun t241 => (if t241 = true then (if x8_22 = true then (secateurref07_Fits.j2 kj22 a1 a2 t217 (a0_1 != 0) a0_0 a0_1 a0_2 a0_3 a0_4 a0_5 a0_6 a0_7 l0_8) else (secateurref07_Fits.j2 kj22 a1 a2 t217 false a0_0 a0_1 a0_2 a0_3 a0_4 a0_5 a0_6 a0_7 l0_8)) else (secateurref07_Fits.j2 kj22 a1 a2 t217 true a0_0 a0_1 a0_2 a0_3 a0_4 a0_5 a0_6 a0_7 l0_8))) else (if x8_22 = true then (secateurref07_Fits.j2 kj22 a1 a2 t217 (a0_1 != 0) a0_0 a0_1 a0_2 a0_3 a0_4 a0_5 a0_6 a0_7 l0_8) else (secateurref07_Fits.j2 kj22 a1 a2 t217 false a0_0 a0_1 a0_2 a0_3 a0_4 a0_5 a0_6 a0_7 l0_8)))))) = some r := by rw [if_neg (show ¬ (false = true) by decide)] at H; exact H
                clear H
                have H := H1
                clear H1
                replace H := Option.bind_eq_some_iff.mp H
                obtain ⟨t236, A910, H⟩ := H
                replace H : (if t236 = true then ((secateurref07_within.f a0_2 a1).bind fun t237 => (if t237 = true then ((secateurref07_Has.f t217 99).bind fun t238 => (if t238 = true then ((secateurref07_within.f a0_3 a1).bind fun t239 => (if t239 = true then (if x8_22 = true then (secateurref07_Fits.j2 kj22 a1 a2 t217 (a0_1 != 0) a0_0 a0_1 a0_2 a0_3 a0_4 a0_5 a0_6 a0_7 l0_8) else (secateurref07_Fits.j2 kj22 a1 a2 t217 false a0_0 a0_1 a0_2 a0_3 a0_4 a0_5 a0_6 a0_7 l0_8)) else (secateurref07_Fits.j2 kj22 a1 a2 t217 true a0_0 a0_1 a0_2 a0_3 a0_4 a0_5 a0_6 a0_7 l0_8))) else (if x8_22 = true then (secateurref07_Fits.j2 kj22 a1 a2 t217 (a0_1 != 0) a0_0 a0_1 a0_2 a0_3 a0_4 a0_5 a0_6 a0_7 l0_8) else (secateurref07_Fits.j2 kj22 a1 a2 t217 false a0_0 a0_1 a0_2 a0_3 a0_4 a0_5 a0_6 a0_7 l0_8)))) else (secateurref07_Fits.j2 kj22 a1 a2 t217 true a0_0 a0_1 a0_2 a0_3 a0_4 a0_5 a0_6 a0_7 l0_8))) else ((secateurref07_Has.f t217 99).bind fun t240 => (if t240 = true then ((secateurref07_within.f a0_3 a1).bind fun t241 => (if t241 = true then (if x8_22 = true then (secateurref07_Fits.j2 kj22 a1 a2 t217 (a0_1 != 0) a0_0 a0_1 a0_2 a0_3 a0_4 a0_5 a0_6 a0_7 l0_8) else (secateurref07_Fits.j2 kj22 a1 a2 t217 false a0_0 a0_1 a0_2 a0_3 a0_4 a0_5 a0_6 a0_7 l0_8)) else (secateurref07_Fits.j2 kj22 a1 a2 t217 true a0_0 a0_1 a0_2 a0_3 a0_4 a0_5 a0_6 a0_7 l0_8))) else (if x8_22 = true then (secateurref07_Fits.j2 kj22 a1 a2 t217 (a0_1 != 0) a0_0 a0_1 a0_2 a0_3 a0_4 a0_5 a0_6 a0_7 l0_8) else (secateurref07_Fits.j2 kj22 a1 a2 t217 false a0_0 a0_1 a0_2 a0_3 a0_4 a0_5 a0_6 a0_7 l0_8))))) = some r := H
                have A91 := Aside0.mk A910
                clear A910
                by_cases c92 : t236 = true
                · subst c92
                  have H1 : ((secateurref07_within.f a0_2 a1).bind fun t237 => (if t237 = true then ((secateurref07_Has.f t217 99).bind fun t238 => (if t238 = true then ((secateurref07_within.f a0_3 a1).bind fun t239 => (if t239 = true then (if x8_22 = true then (secateurref07_Fits.j2 kj22 a1 a2 t217 (a0_1 != 0) a0_0 a0_1 a0_2 a0_3 a0_4 a0_5 a0_6 a0_7 l0_8) else (secateurref07_Fits.j2 kj22 a1 a2 t217 false a0_0 a0_1 a0_2 a0_3 a0_4 a0_5 a0_6 a0_7 l0_8)) else (secateurref07_Fits.j2 kj22 a1 a2 t217 true a0_0 a0_1 a0_2 a0_3 a0_4 a0_5 a0_6 a0_7 l0_8))) else (if x8_22 = true then (secateurref07_Fits.j2 kj22 a1 a2 t217 (a0_1 != 0) a0_0 a0_1 a0_2 a0_3 a0_4 a0_5 a0_6 a0_7 l0_8) else (secateurref07_Fits.j2 kj22 a1 a2 t217 false a0_0 a0_1 a0_2 a0_3 a0_4 a0_5 a0_6 a0_7 l0_8)))) else (secateurref07_Fits.j2 kj22 a1 a2 t217 true a0_0 a0_1 a0_2 a0_3 a0_4 a0_5 a0_6 a0_7 l0_8))) = some r := by rw [if_pos rfl] at H; exact H
                  clear H
                  have H := H1
                  clear H1
                  replace H := Option.bind_eq_some_iff.mp H
                  obtain ⟨t237, A930, H⟩ := H
                  replace H : (if t237 = true then ((secateurref07_Has.f t217 99).bind fun t238 => (if t238 = true then ((secateurref07_within.f a0_3 a1).bind fun t239 => (if t239 = true then (if x8_22 = true then (secateurref07_Fits.j2 kj22 a1 a2 t217 (a0_1 != 0) a0_0 a0_1 a0_2 a0_3 a0_4 a0_5 a0_6 a0_7 l0_8) else (secateurref07_Fits.j2 kj22 a1 a2 t217 false a0_0 a0_1 a0_2 a0_3 a0_4 a0_5 a0_6 a0_7 l0_8)) else (secateurref07_Fits.j2 kj22 a1 a2 t217 true a0_0 a0_1 a0_2 a0_3 a0_4 a0_5 a0_6 a0_7 l0_8))) else (if x8_22 = true then (secateurref07_Fits.j2 kj22 a1 a2 t217 (a0_1 != 0) a0_0 a0_1 a0_2 a0_3 a0_4 a0_5 a0_6 a0_7 l0_8) else (secateurref07_Fits.j2 kj22 a1 a2 t217 false a0_0 a0_1 a0_2 a0_3 a0_4 a0_5 a0_6 a0_7 l0_8)))) else (secateurref07_Fits.j2 kj22 a1 a2 t217 true a0_0 a0_1 a0_2 a0_3 a0_4 a0_5 a0_6 a0_7 l0_8)) = some r := H
                  have A93 := Aside0.mk A930
                  clear A930
                  by_cases c94 : t237 = true
                  · subst c94
                    have H1 : ((secateurref07_Has.f t217 99).bind fun t238 => (if t238 = true then ((secateurref07_within.f a0_3 a1).bind fun t239 => (if t239 = true then (if x8_22 = true then (secateurref07_Fits.j2 kj22 a1 a2 t217 (a0_1 != 0) a0_0 a0_1 a0_2 a0_3 a0_4 a0_5 a0_6 a0_7 l0_8) else (secateurref07_Fits.j2 kj22 a1 a2 t217 false a0_0 a0_1 a0_2 a0_3 a0_4 a0_5 a0_6 a0_7 l0_8)) else (secateurref07_Fits.j2 kj22 a1 a2 t217 true a0_0 a0_1 a0_2 a0_3 a0_4 a0_5 a0_6 a0_7 l0_8))) else (if x8_22 = true then (secateurref07_Fits.j2 kj22 a1 a2 t217 (a0_1 != 0) a0_0 a0_1 a0_2 a0_3 a0_4 a0_5 a0_6 a0_7 l0_8) else (secateurref07_Fits.j2 kj22 a1 a2 t217 false a0_0 a0_1 a0_2 a0_3 a0_4 a0_5 a0_6 a0_7 l0_8)))) = some r := by rw [if_pos rfl] at H; exact H
                    clear H
                    have H := H1
                    clear H1
                    replace H := Option.bind_eq_some_iff.mp H
                    obtain ⟨t238, A950, H⟩ := H
                    replace H : (if t238 = true then ((secateurref07_within.f a0_3 a1).bind fun t239 => (if t239 = true then (if x8_22 = true then (secateurref07_Fits.j2 kj22 a1 a2 t217 (a0_1 != 0) a0_0 a0_1 a0_2 a0_3 a0_4 a0_5 a0_6 a0_7 l0_8) else (secateurref07_Fits.j2 kj22 a1 a2 t217 false a0_0 a0_1 a0_2 a0_3 a0_4 a0_5 a0_6 a0_7 l0_8)) else (secateurref07_Fits.j2 kj22 a1 a2 t217 true a0_0 a0_1 a0_2 a0_3 a0_4 a0_5 a0_6 a0_7 l0_8))) else (if x8_22 = true then (secateurref07_Fits.j2 kj22 a1 a2 t217 (a0_1 != 0) a0_0 a0_1 a0_2 a0_3 a0_4 a0_5 a0_6 a0_7 l0_8) else (secateurref07_Fits.j2 kj22 a1 a2 t217 false a0_0 a0_1 a0_2 a0_3 a0_4 a0_5 a0_6 a0_7 l0_8))) = some r := H
                    have A95 := Aside0.mk A950
                    clear A950
                    by_cases c96 : t238 = true
                    · subst c96
                      have H1 : ((secateurref07_within.f a0_3 a1).bind fun t239 => (if t239 = true then (if x8_22 = true then (secateurref07_Fits.j2 kj22 a1 a2 t217 (a0_1 != 0) a0_0 a0_1 a0_2 a0_3 a0_4 a0_5 a0_6 a0_7 l0_8) else (secateurref07_Fits.j2 kj22 a1 a2 t217 false a0_0 a0_1 a0_2 a0_3 a0_4 a0_5 a0_6 a0_7 l0_8)) else (secateurref07_Fits.j2 kj22 a1 a2 t217 true a0_0 a0_1 a0_2 a0_3 a0_4 a0_5 a0_6 a0_7 l0_8))) = some r := by rw [if_pos rfl] at H; exact H
                      clear H
                      have H := H1
                      clear H1
                      replace H := Option.bind_eq_some_iff.mp H
                      obtain ⟨t239, A970, H⟩ := H
                      replace H : (if t239 = true then (if x8_22 = true then (secateurref07_Fits.j2 kj22 a1 a2 t217 (a0_1 != 0) a0_0 a0_1 a0_2 a0_3 a0_4 a0_5 a0_6 a0_7 l0_8) else (secateurref07_Fits.j2 kj22 a1 a2 t217 false a0_0 a0_1 a0_2 a0_3 a0_4 a0_5 a0_6 a0_7 l0_8)) else (secateurref07_Fits.j2 kj22 a1 a2 t217 true a0_0 a0_1 a0_2 a0_3 a0_4 a0_5 a0_6 a0_7 l0_8)) = some r := H
                      have A97 := Aside0.mk A970
                      clear A970
                      by_cases c98 : t239 = true
                      · subst c98
                        have H1 : (if x8_22 = true then (secateurref07_Fits.j2 kj22 a1 a2 t217 (a0_1 != 0) a0_0 a0_1 a0_2 a0_3 a0_4 a0_5 a0_6 a0_7 l0_8) else (secateurref07_Fits.j2 kj22 a1 a2 t217 false a0_0 a0_1 a0_2 a0_3 a0_4 a0_5 a0_6 a0_7 l0_8)) = some r := by rw [if_pos rfl] at H; exact H
                        clear H
                        have H := H1
                        clear H1
                        by_cases c99 : x8_22 = true
                        · subst c99
                          have H1 : (secateurref07_Fits.j2 kj22 a1 a2 t217 (a0_1 != 0) a0_0 a0_1 a0_2 a0_3 a0_4 a0_5 a0_6 a0_7 l0_8) = some r := by rw [if_pos rfl] at H; exact H
                          clear H
                          have H := H1
                          clear H1
                          as_aux_lemma =>
                            have H' := Aside0.mk H
                            clear H
                            go_wp2_with (first | ((with_reducible refine gate_callee (f := 32) rfl ?_); refine goesL_ (some 63) rfl rfl Tryd.func32 (by kernel_rfl) rfl #[.string t217, .int .u8 97] rfl (by (try simp only [List.map_toArray, List.map_cons, List.map_nil]); first | done | rfl | (simp only [List.length_drop, List.length_take]; rfl)) ?_; (with_reducible refine (secateurref07_Has.calls t217 97 false _ A59.out).mono ?_); rintro e w' ⟨rfl, ⟨nd, rfl⟩⟩; refine ⟨_, rfl, ?_⟩) | (go_at_call 32; (with_reducible refine (secateurref07_Has.calls t217 98 true _ A91.out).mono ?_); rintro e w' ⟨rfl, ⟨nd, rfl⟩⟩; have hcz100_0 : wc.cell? ⟨gb216, 0, none⟩ = some (.int .i64 a0_0) := (blk_cell BK216.out 0).trans rfl; have hcz100_1 : wc.cell? ⟨gb216, 1, none⟩ = some (.int .i64 a0_1) := (blk_cell BK216.out 1).trans rfl; have hcz100_2 : wc.cell? ⟨gb216, 2, none⟩ = some (.int .i64 a0_2) := (blk_cell BK216.out 2).trans rfl; have hcz100_3 : wc.cell? ⟨gb216, 3, none⟩ = some (.int .i64 a0_3) := (blk_cell BK216.out 3).trans rfl; have hcz100_4 : wc.cell? ⟨gb216, 4, none⟩ = some (.int .i64 a0_4) := (blk_cell BK216.out 4).trans rfl; have hcz100_5 : wc.cell? ⟨gb216, 5, none⟩ = some (.string a0_5) := (blk_cell BK216.out 5).trans rfl; have hcz100_6 : wc.cell? ⟨gb216, 6, none⟩ = some (.string a0_6) := (blk_cell BK216.out 6).trans rfl; have hcz100_7 : wc.cell? ⟨gb216, 7, none⟩ = some (.string a0_7) := (blk_cell BK216.out 7).trans rfl; have hcz100_8 : wc.cell? ⟨gb216, 8, none⟩ = some (.slice A0_8 l0_8.length c0_8) := (blk_cell BK216.out 8).trans rfl; have hfz100_0 := blk_frozen BK216.out 0; have hfz100_1 := blk_frozen BK216.out 1; have hfz100_2 := blk_frozen BK216.out 2; have hfz100_3 := blk_frozen BK216.out 3; have hfz100_4 := blk_frozen BK216.out 4; have hfz100_5 := blk_frozen BK216.out 5; have hfz100_6 := blk_frozen BK216.out 6; have hfz100_7 := blk_frozen BK216.out 7; have hfz100_8 := blk_frozen BK216.out 8) | (go_at_call 48; (with_reducible refine (secateurref07_within.calls a0_2 a1 true _ A93.out).mono ?_); rintro e w' ⟨rfl, ⟨nd, rfl⟩⟩) | (go_at_call 32; (with_reducible refine (secateurref07_Has.calls t217 99 true _ A95.out).mono ?_); rintro e w' ⟨rfl, ⟨nd, rfl⟩⟩) | (go_at_call 48; (with_reducible refine (secateurref07_within.calls a0_3 a1 true _ A97.out).mono ?_); rintro e w' ⟨rfl, ⟨nd, rfl⟩⟩))
                            go_meet
                            case rel => exact ⟨_, ((a0_1 != 0)), (by first | rfl | (simp; done) | (simp [*]; done)), H', ⟨by have := HJ4.out; have := HJ22.out; first | omega | exact Nat.le_refl _⟩, ⟨by (with_reducible repeat (first | refine blk_drewN ?_ _ | refine blk_drew ?_ | refine blk_alloc ?_ _)); exact BK216.out⟩, ⟨by repeat (first | (with_reducible first | exact HB.out | apply below_alloc | apply pw_below_drewN | apply below_drew1 | refine below_set ?_ GE216.out) | exact HB.out)⟩⟩
                        · replace c99 := Bool.eq_false_iff.mpr c99
                          subst c99
                          have H1 : (secateurref07_Fits.j2 kj22 a1 a2 t217 false a0_0 a0_1 a0_2 a0_3 a0_4 a0_5 a0_6 a0_7 l0_8) = some r := by rw [if_neg (show ¬ (false = true) by decide)] at H; exact H
                          clear H
                          have H := H1
                          clear H1
                          as_aux_lemma =>
                            have H' := Aside0.mk H
                            clear H
                            go_wp2_with (first | ((with_reducible refine gate_callee (f := 32) rfl ?_); refine goesL_ (some 63) rfl rfl Tryd.func32 (by kernel_rfl) rfl #[.string t217, .int .u8 97] rfl (by (try simp only [List.map_toArray, List.map_cons, List.map_nil]); first | done | rfl | (simp only [List.length_drop, List.length_take]; rfl)) ?_; (with_reducible refine (secateurref07_Has.calls t217 97 false _ A59.out).mono ?_); rintro e w' ⟨rfl, ⟨nd, rfl⟩⟩; refine ⟨_, rfl, ?_⟩) | (go_at_call 32; (with_reducible refine (secateurref07_Has.calls t217 98 true _ A91.out).mono ?_); rintro e w' ⟨rfl, ⟨nd, rfl⟩⟩; have hcz101_0 : wc.cell? ⟨gb216, 0, none⟩ = some (.int .i64 a0_0) := (blk_cell BK216.out 0).trans rfl; have hcz101_1 : wc.cell? ⟨gb216, 1, none⟩ = some (.int .i64 a0_1) := (blk_cell BK216.out 1).trans rfl; have hcz101_2 : wc.cell? ⟨gb216, 2, none⟩ = some (.int .i64 a0_2) := (blk_cell BK216.out 2).trans rfl; have hcz101_3 : wc.cell? ⟨gb216, 3, none⟩ = some (.int .i64 a0_3) := (blk_cell BK216.out 3).trans rfl; have hcz101_4 : wc.cell? ⟨gb216, 4, none⟩ = some (.int .i64 a0_4) := (blk_cell BK216.out 4).trans rfl; have hcz101_5 : wc.cell? ⟨gb216, 5, none⟩ = some (.string a0_5) := (blk_cell BK216.out 5).trans rfl; have hcz101_6 : wc.cell? ⟨gb216, 6, none⟩ = some (.string a0_6) := (blk_cell BK216.out 6).trans rfl; have hcz101_7 : wc.cell? ⟨gb216, 7, none⟩ = some (.string a0_7) := (blk_cell BK216.out 7).trans rfl; have hcz101_8 : wc.cell? ⟨gb216, 8, none⟩ = some (.slice A0_8 l0_8.length c0_8) := (blk_cell BK216.out 8).trans rfl; have hfz101_0 := blk_frozen BK216.out 0; have hfz101_1 := blk_frozen BK216.out 1; have hfz101_2 := blk_frozen BK216.out 2; have hfz101_3 := blk_frozen BK216.out 3; have hfz101_4 := blk_frozen BK216.out 4; have hfz101_5 := blk_frozen BK216.out 5; have hfz101_6 := blk_frozen BK216.out 6; have hfz101_7 := blk_frozen BK216.out 7; have hfz101_8 := blk_frozen BK216.out 8) | (go_at_call 48; (with_reducible refine (secateurref07_within.calls a0_2 a1 true _ A93.out).mono ?_); rintro e w' ⟨rfl, ⟨nd, rfl⟩⟩) | (go_at_call 32; (with_reducible refine (secateurref07_Has.calls t217 99 true _ A95.out).mono ?_); rintro e w' ⟨rfl, ⟨nd, rfl⟩⟩) | (go_at_call 48; (with_reducible refine (secateurref07_within.calls a0_3 a1 true _ A97.out).mono ?_); rintro e w' ⟨rfl, ⟨nd, rfl⟩⟩))
                            go_meet
                            case rel => exact ⟨_, (false), (by first | rfl | (simp; done) | (simp [*]; done)), H', ⟨by have := HJ4.out; have := HJ22.out; first | omega | exact Nat.le_refl _⟩, ⟨by (with_reducible repeat (first | refine blk_drewN ?_ _ | refine blk_drew ?_ | refine blk_alloc ?_ _)); exact BK216.out⟩, ⟨by repeat (first | (with_reducible first | exact HB.out | apply below_alloc | apply pw_below_drewN | apply below_drew1 | refine below_set ?_ GE216.out) | exact HB.out)⟩⟩
                      · replace c98 := Bool.eq_false_iff.mpr c98
                        subst c98
                        have H1 : (secateurref07_Fits.j2 kj22 a1 a2 t217 true a0_0 a0_1 a0_2 a0_3 a0_4 a0_5 a0_6 a0_7 l0_8) = some r := by rw [if_neg (show ¬ (false = true) by decide)] at H; exact H
                        clear H
                        have H := H1
                        clear H1
                        as_aux_lemma =>
                          have H' := Aside0.mk H
                          clear H
                          go_wp2_with (first | ((with_reducible refine gate_callee (f := 32) rfl ?_); refine goesL_ (some 63) rfl rfl Tryd.func32 (by kernel_rfl) rfl #[.string t217, .int .u8 97] rfl (by (try simp only [List.map_toArray, List.map_cons, List.map_nil]); first | done | rfl | (simp only [List.length_drop, List.length_take]; rfl)) ?_; (with_reducible refine (secateurref07_Has.calls t217 97 false _ A59.out).mono ?_); rintro e w' ⟨rfl, ⟨nd, rfl⟩⟩; refine ⟨_, rfl, ?_⟩) | (go_at_call 32; (with_reducible refine (secateurref07_Has.calls t217 98 true _ A91.out).mono ?_); rintro e w' ⟨rfl, ⟨nd, rfl⟩⟩; have hcz102_0 : wc.cell? ⟨gb216, 0, none⟩ = some (.int .i64 a0_0) := (blk_cell BK216.out 0).trans rfl; have hcz102_1 : wc.cell? ⟨gb216, 1, none⟩ = some (.int .i64 a0_1) := (blk_cell BK216.out 1).trans rfl; have hcz102_2 : wc.cell? ⟨gb216, 2, none⟩ = some (.int .i64 a0_2) := (blk_cell BK216.out 2).trans rfl; have hcz102_3 : wc.cell? ⟨gb216, 3, none⟩ = some (.int .i64 a0_3) := (blk_cell BK216.out 3).trans rfl; have hcz102_4 : wc.cell? ⟨gb216, 4, none⟩ = some (.int .i64 a0_4) := (blk_cell BK216.out 4).trans rfl; have hcz102_5 : wc.cell? ⟨gb216, 5, none⟩ = some (.string a0_5) := (blk_cell BK216.out 5).trans rfl; have hcz102_6 : wc.cell? ⟨gb216, 6, none⟩ = some (.string a0_6) := (blk_cell BK216.out 6).trans rfl; have hcz102_7 : wc.cell? ⟨gb216, 7, none⟩ = some (.string a0_7) := (blk_cell BK216.out 7).trans rfl; have hcz102_8 : wc.cell? ⟨gb216, 8, none⟩ = some (.slice A0_8 l0_8.length c0_8) := (blk_cell BK216.out 8).trans rfl; have hfz102_0 := blk_frozen BK216.out 0; have hfz102_1 := blk_frozen BK216.out 1; have hfz102_2 := blk_frozen BK216.out 2; have hfz102_3 := blk_frozen BK216.out 3; have hfz102_4 := blk_frozen BK216.out 4; have hfz102_5 := blk_frozen BK216.out 5; have hfz102_6 := blk_frozen BK216.out 6; have hfz102_7 := blk_frozen BK216.out 7; have hfz102_8 := blk_frozen BK216.out 8) | (go_at_call 48; (with_reducible refine (secateurref07_within.calls a0_2 a1 true _ A93.out).mono ?_); rintro e w' ⟨rfl, ⟨nd, rfl⟩⟩) | (go_at_call 32; (with_reducible refine (secateurref07_Has.calls t217 99 true _ A95.out).mono ?_); rintro e w' ⟨rfl, ⟨nd, rfl⟩⟩) | (go_at_call 48; (with_reducible refine (secateurref07_within.calls a0_3 a1 false _ A97.out).mono ?_); rintro e w' ⟨rfl, ⟨nd, rfl⟩⟩))
                          go_meet
                          case rel => exact ⟨_, (true), (by first | rfl | (simp; done) | (simp [*]; done)), H', ⟨by have := HJ4.out; have := HJ22.out; first | omega | exact Nat.le_refl _⟩, ⟨by (with_reducible repeat (first | refine blk_drewN ?_ _ | refine blk_drew ?_ | refine blk_alloc ?_ _)); exact BK216.out⟩, ⟨by repeat (first | (with_reducible first | exact HB.out | apply below_alloc | apply pw_below_drewN | apply below_drew1 | refine below_set ?_ GE216.out) | exact HB.out)⟩⟩
                    · replace c96 := Bool.eq_false_iff.mpr c96
                      subst c96
                      have H1 : (if x8_22 = true then (secateurref07_Fits.j2 kj22 a1 a2 t217 (a0_1 != 0) a0_0 a0_1 a0_2 a0_3 a0_4 a0_5 a0_6 a0_7 l0_8) else (secateurref07_Fits.j2 kj22 a1 a2 t217 false a0_0 a0_1 a0_2 a0_3 a0_4 a0_5 a0_6 a0_7 l0_8)) = some r := by rw [if_neg (show ¬ (false = true) by decide)] at H; exact H
                      clear H
                      have H := H1
                      clear H1
                      by_cases c103 : x8_22 = true
                      · subst c103
                        have H1 : (secateurref07_Fits.j2 kj22 a1 a2 t217 (a0_1 != 0) a0_0 a0_1 a0_2 a0_3 a0_4 a0_5 a0_6 a0_7 l0_8) = some r := by rw [if_pos rfl] at H; exact H
                        clear H
                        have H := H1
                        clear H1
                        as_aux_lemma =>
                          have H' := Aside0.mk H
                          clear H
                          go_wp2_with (first | ((with_reducible refine gate_callee (f := 32) rfl ?_); refine goesL_ (some 63) rfl rfl Tryd.func32 (by kernel_rfl) rfl #[.string t217, .int .u8 97] rfl (by (try simp only [List.map_toArray, List.map_cons, List.map_nil]); first | done | rfl | (simp only [List.length_drop, List.length_take]; rfl)) ?_; (with_reducible refine (secateurref07_Has.calls t217 97 false _ A59.out).mono ?_); rintro e w' ⟨rfl, ⟨nd, rfl⟩⟩; refine ⟨_, rfl, ?_⟩) | (go_at_call 32; (with_reducible refine (secateurref07_Has.calls t217 98 true _ A91.out).mono ?_); rintro e w' ⟨rfl, ⟨nd, rfl⟩⟩; have hcz104_0 : wc.cell? ⟨gb216, 0, none⟩ = some (.int .i64 a0_0) := (blk_cell BK216.out 0).trans rfl; have hcz104_1 : wc.cell? ⟨gb216, 1, none⟩ = some (.int .i64 a0_1) := (blk_cell BK216.out 1).trans rfl; have hcz104_2 : wc.cell? ⟨gb216, 2, none⟩ = some (.int .i64 a0_2) := (blk_cell BK216.out 2).trans rfl; have hcz104_3 : wc.cell? ⟨gb216, 3, none⟩ = some (.int .i64 a0_3) := (blk_cell BK216.out 3).trans rfl; have hcz104_4 : wc.cell? ⟨gb216, 4, none⟩ = some (.int .i64 a0_4) := (blk_cell BK216.out 4).trans rfl; have hcz104_5 : wc.cell? ⟨gb216, 5, none⟩ = some (.string a0_5) := (blk_cell BK216.out 5).trans rfl; have hcz104_6 : wc.cell? ⟨gb216, 6, none⟩ = some (.string a0_6) := (blk_cell BK216.out 6).trans rfl; have hcz104_7 : wc.cell? ⟨gb216, 7, none⟩ = some (.string a0_7) := (blk_cell BK216.out 7).trans rfl; have hcz104_8 : wc.cell? ⟨gb216, 8, none⟩ = some (.slice A0_8 l0_8.length c0_8) := (blk_cell BK216.out 8).trans rfl; have hfz104_0 := blk_frozen BK216.out 0; have hfz104_1 := blk_frozen BK216.out 1; have hfz104_2 := blk_frozen BK216.out 2; have hfz104_3 := blk_frozen BK216.out 3; have hfz104_4 := blk_frozen BK216.out 4; have hfz104_5 := blk_frozen BK216.out 5; have hfz104_6 := blk_frozen BK216.out 6; have hfz104_7 := blk_frozen BK216.out 7; have hfz104_8 := blk_frozen BK216.out 8) | (go_at_call 48; (with_reducible refine (secateurref07_within.calls a0_2 a1 true _ A93.out).mono ?_); rintro e w' ⟨rfl, ⟨nd, rfl⟩⟩) | (go_at_call 32; (with_reducible refine (secateurref07_Has.calls t217 99 false _ A95.out).mono ?_); rintro e w' ⟨rfl, ⟨nd, rfl⟩⟩))
                          go_meet
                          case rel => exact ⟨_, ((a0_1 != 0)), (by first | rfl | (simp; done) | (simp [*]; done)), H', ⟨by have := HJ4.out; have := HJ22.out; first | omega | exact Nat.le_refl _⟩, ⟨by (with_reducible repeat (first | refine blk_drewN ?_ _ | refine blk_drew ?_ | refine blk_alloc ?_ _)); exact BK216.out⟩, ⟨by repeat (first | (with_reducible first | exact HB.out | apply below_alloc | apply pw_below_drewN | apply below_drew1 | refine below_set ?_ GE216.out) | exact HB.out)⟩⟩
                      · replace c103 := Bool.eq_false_iff.mpr c103
                        subst c103
                        have H1 : (secateurref07_Fits.j2 kj22 a1 a2 t217 false a0_0 a0_1 a0_2 a0_3 a0_4 a0_5 a0_6 a0_7 l0_8) = some r := by rw [if_neg (show ¬ (false = true) by decide)] at H; exact H
                        clear H
                        have H := H1
                        clear H1
                        as_aux_lemma =>
                          have H' := Aside0.mk H
                          clear H
                          go_wp2_with (first | ((with_reducible refine gate_callee (f := 32) rfl ?_); refine goesL_ (some 63) rfl rfl Tryd.func32 (by kernel_rfl) rfl #[.string t217, .int .u8 97] rfl (by (try simp only [List.map_toArray, List.map_cons, List.map_nil]); first | done | rfl | (simp only [List.length_drop, List.length_take]; rfl)) ?_; (with_reducible refine (secateurref07_Has.calls t217 97 false _ A59.out).mono ?_); rintro e w' ⟨rfl, ⟨nd, rfl⟩⟩; refine ⟨_, rfl, ?_⟩) | (go_at_call 32; (with_reducible refine (secateurref07_Has.calls t217 98 true _ A91.out).mono ?_); rintro e w' ⟨rfl, ⟨nd, rfl⟩⟩; have hcz105_0 : wc.cell? ⟨gb216, 0, none⟩ = some (.int .i64 a0_0) := (blk_cell BK216.out 0).trans rfl; have hcz105_1 : wc.cell? ⟨gb216, 1, none⟩ = some (.int .i64 a0_1) := (blk_cell BK216.out 1).trans rfl; have hcz105_2 : wc.cell? ⟨gb216, 2, none⟩ = some (.int .i64 a0_2) := (blk_cell BK216.out 2).trans rfl; have hcz105_3 : wc.cell? ⟨gb216, 3, none⟩ = some (.int .i64 a0_3) := (blk_cell BK216.out 3).trans rfl; have hcz105_4 : wc.cell? ⟨gb216, 4, none⟩ = some (.int .i64 a0_4) := (blk_cell BK216.out 4).trans rfl; have hcz105_5 : wc.cell? ⟨gb216, 5, none⟩ = some (.string a0_5) := (blk_cell BK216.out 5).trans rfl; have hcz105_6 : wc.cell? ⟨gb216, 6, none⟩ = some (.string a0_6) := (blk_cell BK216.out 6).trans rfl; have hcz105_7 : wc.cell? ⟨gb216, 7, none⟩ = some (.string a0_7) := (blk_cell BK216.out 7).trans rfl; have hcz105_8 : wc.cell? ⟨gb216, 8, none⟩ = some (.slice A0_8 l0_8.length c0_8) := (blk_cell BK216.out 8).trans rfl; have hfz105_0 := blk_frozen BK216.out 0; have hfz105_1 := blk_frozen BK216.out 1; have hfz105_2 := blk_frozen BK216.out 2; have hfz105_3 := blk_frozen BK216.out 3; have hfz105_4 := blk_frozen BK216.out 4; have hfz105_5 := blk_frozen BK216.out 5; have hfz105_6 := blk_frozen BK216.out 6; have hfz105_7 := blk_frozen BK216.out 7; have hfz105_8 := blk_frozen BK216.out 8) | (go_at_call 48; (with_reducible refine (secateurref07_within.calls a0_2 a1 true _ A93.out).mono ?_); rintro e w' ⟨rfl, ⟨nd, rfl⟩⟩) | (go_at_call 32; (with_reducible refine (secateurref07_Has.calls t217 99 false _ A95.out).mono ?_); rintro e w' ⟨rfl, ⟨nd, rfl⟩⟩))
                          go_meet
                          case rel => exact ⟨_, (false), (by first | rfl | (simp; done) | (simp [*]; done)), H', ⟨by have := HJ4.out; have := HJ22.out; first | omega | exact Nat.le_refl _⟩, ⟨by (with_reducible repeat (first | refine blk_drewN ?_ _ | refine blk_drew ?_ | refine blk_alloc ?_ _)); exact BK216.out⟩, ⟨by repeat (first | (with_reducible first | exact HB.out | apply below_alloc | apply pw_below_drewN | apply below_drew1 | refine below_set ?_ GE216.out) | exact HB.out)⟩⟩
                  · replace c94 := Bool.eq_false_iff.mpr c94
                    subst c94
                    have H1 : (secateurref07_Fits.j2 kj22 a1 a2 t217 true a0_0 a0_1 a0_2 a0_3 a0_4 a0_5 a0_6 a0_7 l0_8) = some r := by rw [if_neg (show ¬ (false = true) by decide)] at H; exact H
                    clear H
                    have H := H1
                    clear H1
                    as_aux_lemma =>
                      have H' := Aside0.mk H
                      clear H
                      go_wp2_with (first | ((with_reducible refine gate_callee (f := 32) rfl ?_); refine goesL_ (some 63) rfl rfl Tryd.func32 (by kernel_rfl) rfl #[.string t217, .int .u8 97] rfl (by (try simp only [List.map_toArray, List.map_cons, List.map_nil]); first | done | rfl | (simp only [List.length_drop, List.length_take]; rfl)) ?_; (with_reducible refine (secateurref07_Has.calls t217 97 false _ A59.out).mono ?_); rintro e w' ⟨rfl, ⟨nd, rfl⟩⟩; refine ⟨_, rfl, ?_⟩) | (go_at_call 32; (with_reducible refine (secateurref07_Has.calls t217 98 true _ A91.out).mono ?_); rintro e w' ⟨rfl, ⟨nd, rfl⟩⟩; have hcz106_0 : wc.cell? ⟨gb216, 0, none⟩ = some (.int .i64 a0_0) := (blk_cell BK216.out 0).trans rfl; have hcz106_1 : wc.cell? ⟨gb216, 1, none⟩ = some (.int .i64 a0_1) := (blk_cell BK216.out 1).trans rfl; have hcz106_2 : wc.cell? ⟨gb216, 2, none⟩ = some (.int .i64 a0_2) := (blk_cell BK216.out 2).trans rfl; have hcz106_3 : wc.cell? ⟨gb216, 3, none⟩ = some (.int .i64 a0_3) := (blk_cell BK216.out 3).trans rfl; have hcz106_4 : wc.cell? ⟨gb216, 4, none⟩ = some (.int .i64 a0_4) := (blk_cell BK216.out 4).trans rfl; have hcz106_5 : wc.cell? ⟨gb216, 5, none⟩ = some (.string a0_5) := (blk_cell BK216.out 5).trans rfl; have hcz106_6 : wc.cell? ⟨gb216, 6, none⟩ = some (.string a0_6) := (blk_cell BK216.out 6).trans rfl; have hcz106_7 : wc.cell? ⟨gb216, 7, none⟩ = some (.string a0_7) := (blk_cell BK216.out 7).trans rfl; have hcz106_8 : wc.cell? ⟨gb216, 8, none⟩ = some (.slice A0_8 l0_8.length c0_8) := (blk_cell BK216.out 8).trans rfl; have hfz106_0 := blk_frozen BK216.out 0; have hfz106_1 := blk_frozen BK216.out 1; have hfz106_2 := blk_frozen BK216.out 2; have hfz106_3 := blk_frozen BK216.out 3; have hfz106_4 := blk_frozen BK216.out 4; have hfz106_5 := blk_frozen BK216.out 5; have hfz106_6 := blk_frozen BK216.out 6; have hfz106_7 := blk_frozen BK216.out 7; have hfz106_8 := blk_frozen BK216.out 8) | (go_at_call 48; (with_reducible refine (secateurref07_within.calls a0_2 a1 false _ A93.out).mono ?_); rintro e w' ⟨rfl, ⟨nd, rfl⟩⟩))
                      go_meet
                      case rel => exact ⟨_, (true), (by first | rfl | (simp; done) | (simp [*]; done)), H', ⟨by have := HJ4.out; have := HJ22.out; first | omega | exact Nat.le_refl _⟩, ⟨by (with_reducible repeat (first | refine blk_drewN ?_ _ | refine blk_drew ?_ | refine blk_alloc ?_ _)); exact BK216.out⟩, ⟨by repeat (first | (with_reducible first | exact HB.out | apply below_alloc | apply pw_below_drewN | apply below_drew1 | refine below_set ?_ GE216.out) | exact HB.out)⟩⟩
                · replace c92 := Bool.eq_false_iff.mpr c92
                  subst c92
                  have H1 : ((secateurref07_Has.f t217 99).bind fun t240 => (if t240 = true then ((secateurref07_within.f a0_3 a1).bind fun t241 => (if t241 = true then (if x8_22 = true then (secateurref07_Fits.j2 kj22 a1 a2 t217 (a0_1 != 0) a0_0 a0_1 a0_2 a0_3 a0_4 a0_5 a0_6 a0_7 l0_8) else (secateurref07_Fits.j2 kj22 a1 a2 t217 false a0_0 a0_1 a0_2 a0_3 a0_4 a0_5 a0_6 a0_7 l0_8)) else (secateurref07_Fits.j2 kj22 a1 a2 t217 true a0_0 a0_1 a0_2 a0_3 a0_4 a0_5 a0_6 a0_7 l0_8))) else (if x8_22 = true then (secateurref07_Fits.j2 kj22 a1 a2 t217 (a0_1 != 0) a0_0 a0_1 a0_2 a0_3 a0_4 a0_5 a0_6 a0_7 l0_8) else (secateurref07_Fits.j2 kj22 a1 a2 t217 false a0_0 a0_1 a0_2 a0_3 a0_4 a0_5 a0_6 a0_7 l0_8)))) = some r := by rw [if_neg (show ¬ (false = true) by decide)] at H; exact H
                  clear H
                  have H := H1
                  clear H1
                  replace H := Option.bind_eq_some_iff.mp H
                  obtain ⟨t240, A1070, H⟩ := H
                  replace H : (if t240 = true then ((secateurref07_within.f a0_3 a1).bind fun t241 => (if t241 = true then (if x8_22 = true then (secateurref07_Fits.j2 kj22 a1 a2 t217 (a0_1 != 0) a0_0 a0_1 a0_2 a0_3 a0_4 a0_5 a0_6 a0_7 l0_8) else (secateurref07_Fits.j2 kj22 a1 a2 t217 false a0_0 a0_1 a0_2 a0_3 a0_4 a0_5 a0_6 a0_7 l0_8)) else (secateurref07_Fits.j2 kj22 a1 a2 t217 true a0_0 a0_1 a0_2 a0_3 a0_4 a0_5 a0_6 a0_7 l0_8))) else (if x8_22 = true then (secateurref07_Fits.j2 kj22 a1 a2 t217 (a0_1 != 0) a0_0 a0_1 a0_2 a0_3 a0_4 a0_5 a0_6 a0_7 l0_8) else (secateurref07_Fits.j2 kj22 a1 a2 t217 false a0_0 a0_1 a0_2 a0_3 a0_4 a0_5 a0_6 a0_7 l0_8))) = some r := H
                  have A107 := Aside0.mk A1070
                  clear A1070
                  by_cases c108 : t240 = true
                  · subst c108
                    have H1 : ((secateurref07_within.f a0_3 a1).bind fun t241 => (if t241 = true then (if x8_22 = true then (secateurref07_Fits.j2 kj22 a1 a2 t217 (a0_1 != 0) a0_0 a0_1 a0_2 a0_3 a0_4 a0_5 a0_6 a0_7 l0_8) else (secateurref07_Fits.j2 kj22 a1 a2 t217 false a0_0 a0_1 a0_2 a0_3 a0_4 a0_5 a0_6 a0_7 l0_8)) else (secateurref07_Fits.j2 kj22 a1 a2 t217 true a0_0 a0_1 a0_2 a0_3 a0_4 a0_5 a0_6 a0_7 l0_8))) = some r := by rw [if_pos rfl] at H; exact H
                    clear H
                    have H := H1
                    clear H1
                    replace H := Option.bind_eq_some_iff.mp H
                    obtain ⟨t241, A1090, H⟩ := H
                    replace H : (if t241 = true then (if x8_22 = true then (secateurref07_Fits.j2 kj22 a1 a2 t217 (a0_1 != 0) a0_0 a0_1 a0_2 a0_3 a0_4 a0_5 a0_6 a0_7 l0_8) else (secateurref07_Fits.j2 kj22 a1 a2 t217 false a0_0 a0_1 a0_2 a0_3 a0_4 a0_5 a0_6 a0_7 l0_8)) else (secateurref07_Fits.j2 kj22 a1 a2 t217 true a0_0 a0_1 a0_2 a0_3 a0_4 a0_5 a0_6 a0_7 l0_8)) = some r := H
                    have A109 := Aside0.mk A1090
                    clear A1090
                    by_cases c110 : t241 = true
                    · subst c110
                      have H1 : (if x8_22 = true then (secateurref07_Fits.j2 kj22 a1 a2 t217 (a0_1 != 0) a0_0 a0_1 a0_2 a0_3 a0_4 a0_5 a0_6 a0_7 l0_8) else (secateurref07_Fits.j2 kj22 a1 a2 t217 false a0_0 a0_1 a0_2 a0_3 a0_4 a0_5 a0_6 a0_7 l0_8)) = some r := by rw [if_pos rfl] at H; exact H
                      clear H
                      have H := H1
                      clear H1
                      by_cases c111 : x8_22 = true
                      · subst c111
                        have H1 : (secateurref07_Fits.j2 kj22 a1 a2 t217 (a0_1 != 0) a0_0 a0_1 a0_2 a0_3 a0_4 a0_5 a0_6 a0_7 l0_8) = some r := by rw [if_pos rfl] at H; exact H
                        clear H
                        have H := H1
                        clear H1
                        as_aux_lemma =>
                          have H' := Aside0.mk H
                          clear H
                          go_wp2_with (first | ((with_reducible refine gate_callee (f := 32) rfl ?_); refine goesL_ (some 63) rfl rfl Tryd.func32 (by kernel_rfl) rfl #[.string t217, .int .u8 97] rfl (by (try simp only [List.map_toArray, List.map_cons, List.map_nil]); first | done | rfl | (simp only [List.length_drop, List.length_take]; rfl)) ?_; (with_reducible refine (secateurref07_Has.calls t217 97 false _ A59.out).mono ?_); rintro e w' ⟨rfl, ⟨nd, rfl⟩⟩; refine ⟨_, rfl, ?_⟩) | (go_at_call 32; (with_reducible refine (secateurref07_Has.calls t217 98 false _ A91.out).mono ?_); rintro e w' ⟨rfl, ⟨nd, rfl⟩⟩) | (go_at_call 32; (with_reducible refine (secateurref07_Has.calls t217 99 true _ A107.out).mono ?_); rintro e w' ⟨rfl, ⟨nd, rfl⟩⟩; have hcz112_0 : wc.cell? ⟨gb216, 0, none⟩ = some (.int .i64 a0_0) := (blk_cell BK216.out 0).trans rfl; have hcz112_1 : wc.cell? ⟨gb216, 1, none⟩ = some (.int .i64 a0_1) := (blk_cell BK216.out 1).trans rfl; have hcz112_2 : wc.cell? ⟨gb216, 2, none⟩ = some (.int .i64 a0_2) := (blk_cell BK216.out 2).trans rfl; have hcz112_3 : wc.cell? ⟨gb216, 3, none⟩ = some (.int .i64 a0_3) := (blk_cell BK216.out 3).trans rfl; have hcz112_4 : wc.cell? ⟨gb216, 4, none⟩ = some (.int .i64 a0_4) := (blk_cell BK216.out 4).trans rfl; have hcz112_5 : wc.cell? ⟨gb216, 5, none⟩ = some (.string a0_5) := (blk_cell BK216.out 5).trans rfl; have hcz112_6 : wc.cell? ⟨gb216, 6, none⟩ = some (.string a0_6) := (blk_cell BK216.out 6).trans rfl; have hcz112_7 : wc.cell? ⟨gb216, 7, none⟩ = some (.string a0_7) := (blk_cell BK216.out 7).trans rfl; have hcz112_8 : wc.cell? ⟨gb216, 8, none⟩ = some (.slice A0_8 l0_8.length c0_8) := (blk_cell BK216.out 8).trans rfl; have hfz112_0 := blk_frozen BK216.out 0; have hfz112_1 := blk_frozen BK216.out 1; have hfz112_2 := blk_frozen BK216.out 2; have hfz112_3 := blk_frozen BK216.out 3; have hfz112_4 := blk_frozen BK216.out 4; have hfz112_5 := blk_frozen BK216.out 5; have hfz112_6 := blk_frozen BK216.out 6; have hfz112_7 := blk_frozen BK216.out 7; have hfz112_8 := blk_frozen BK216.out 8) | (go_at_call 48; (with_reducible refine (secateurref07_within.calls a0_3 a1 true _ A109.out).mono ?_); rintro e w' ⟨rfl, ⟨nd, rfl⟩⟩))
                          go_meet
                          case rel => exact ⟨_, ((a0_1 != 0)), (by first | rfl | (simp; done) | (simp [*]; done)), H', ⟨by have := HJ4.out; have := HJ22.out; first | omega | exact Nat.le_refl _⟩, ⟨by (with_reducible repeat (first | refine blk_drewN ?_ _ | refine blk_drew ?_ | refine blk_alloc ?_ _)); exact BK216.out⟩, ⟨by repeat (first | (with_reducible first | exact HB.out | apply below_alloc | apply pw_below_drewN | apply below_drew1 | refine below_set ?_ GE216.out) | exact HB.out)⟩⟩
                      · replace c111 := Bool.eq_false_iff.mpr c111
                        subst c111
                        have H1 : (secateurref07_Fits.j2 kj22 a1 a2 t217 false a0_0 a0_1 a0_2 a0_3 a0_4 a0_5 a0_6 a0_7 l0_8) = some r := by rw [if_neg (show ¬ (false = true) by decide)] at H; exact H
                        clear H
                        have H := H1
                        clear H1
                        as_aux_lemma =>
                          have H' := Aside0.mk H
                          clear H
                          go_wp2_with (first | ((with_reducible refine gate_callee (f := 32) rfl ?_); refine goesL_ (some 63) rfl rfl Tryd.func32 (by kernel_rfl) rfl #[.string t217, .int .u8 97] rfl (by (try simp only [List.map_toArray, List.map_cons, List.map_nil]); first | done | rfl | (simp only [List.length_drop, List.length_take]; rfl)) ?_; (with_reducible refine (secateurref07_Has.calls t217 97 false _ A59.out).mono ?_); rintro e w' ⟨rfl, ⟨nd, rfl⟩⟩; refine ⟨_, rfl, ?_⟩) | (go_at_call 32; (with_reducible refine (secateurref07_Has.calls t217 98 false _ A91.out).mono ?_); rintro e w' ⟨rfl, ⟨nd, rfl⟩⟩) | (go_at_call 32; (with_reducible refine (secateurref07_Has.calls t217 99 true _ A107.out).mono ?_); rintro e w' ⟨rfl, ⟨nd, rfl⟩⟩; have hcz113_0 : wc.cell? ⟨gb216, 0, none⟩ = some (.int .i64 a0_0) := (blk_cell BK216.out 0).trans rfl; have hcz113_1 : wc.cell? ⟨gb216, 1, none⟩ = some (.int .i64 a0_1) := (blk_cell BK216.out 1).trans rfl; have hcz113_2 : wc.cell? ⟨gb216, 2, none⟩ = some (.int .i64 a0_2) := (blk_cell BK216.out 2).trans rfl; have hcz113_3 : wc.cell? ⟨gb216, 3, none⟩ = some (.int .i64 a0_3) := (blk_cell BK216.out 3).trans rfl; have hcz113_4 : wc.cell? ⟨gb216, 4, none⟩ = some (.int .i64 a0_4) := (blk_cell BK216.out 4).trans rfl; have hcz113_5 : wc.cell? ⟨gb216, 5, none⟩ = some (.string a0_5) := (blk_cell BK216.out 5).trans rfl; have hcz113_6 : wc.cell? ⟨gb216, 6, none⟩ = some (.string a0_6) := (blk_cell BK216.out 6).trans rfl; have hcz113_7 : wc.cell? ⟨gb216, 7, none⟩ = some (.string a0_7) := (blk_cell BK216.out 7).trans rfl; have hcz113_8 : wc.cell? ⟨gb216, 8, none⟩ = some (.slice A0_8 l0_8.length c0_8) := (blk_cell BK216.out 8).trans rfl; have hfz113_0 := blk_frozen BK216.out 0; have hfz113_1 := blk_frozen BK216.out 1; have hfz113_2 := blk_frozen BK216.out 2; have hfz113_3 := blk_frozen BK216.out 3; have hfz113_4 := blk_frozen BK216.out 4; have hfz113_5 := blk_frozen BK216.out 5; have hfz113_6 := blk_frozen BK216.out 6; have hfz113_7 := blk_frozen BK216.out 7; have hfz113_8 := blk_frozen BK216.out 8) | (go_at_call 48; (with_reducible refine (secateurref07_within.calls a0_3 a1 true _ A109.out).mono ?_); rintro e w' ⟨rfl, ⟨nd, rfl⟩⟩))
                          go_meet
                          case rel => exact ⟨_, (false), (by first | rfl | (simp; done) | (simp [*]; done)), H', ⟨by have := HJ4.out; have := HJ22.out; first | omega | exact Nat.le_refl _⟩, ⟨by (with_reducible repeat (first | refine blk_drewN ?_ _ | refine blk_drew ?_ | refine blk_alloc ?_ _)); exact BK216.out⟩, ⟨by repeat (first | (with_reducible first | exact HB.out | apply below_alloc | apply pw_below_drewN | apply below_drew1 | refine below_set ?_ GE216.out) | exact HB.out)⟩⟩
                    · replace c110 := Bool.eq_false_iff.mpr c110
                      subst c110
                      have H1 : (secateurref07_Fits.j2 kj22 a1 a2 t217 true a0_0 a0_1 a0_2 a0_3 a0_4 a0_5 a0_6 a0_7 l0_8) = some r := by rw [if_neg (show ¬ (false = true) by decide)] at H; exact H
                      clear H
                      have H := H1
                      clear H1
                      as_aux_lemma =>
                        have H' := Aside0.mk H
                        clear H
                        go_wp2_with (first | ((with_reducible refine gate_callee (f := 32) rfl ?_); refine goesL_ (some 63) rfl rfl Tryd.func32 (by kernel_rfl) rfl #[.string t217, .int .u8 97] rfl (by (try simp only [List.map_toArray, List.map_cons, List.map_nil]); first | done | rfl | (simp only [List.length_drop, List.length_take]; rfl)) ?_; (with_reducible refine (secateurref07_Has.calls t217 97 false _ A59.out).mono ?_); rintro e w' ⟨rfl, ⟨nd, rfl⟩⟩; refine ⟨_, rfl, ?_⟩) | (go_at_call 32; (with_reducible refine (secateurref07_Has.calls t217 98 false _ A91.out).mono ?_); rintro e w' ⟨rfl, ⟨nd, rfl⟩⟩) | (go_at_call 32; (with_reducible refine (secateurref07_Has.calls t217 99 true _ A107.out).mono ?_); rintro e w' ⟨rfl, ⟨nd, rfl⟩⟩; have hcz114_0 : wc.cell? ⟨gb216, 0, none⟩ = some (.int .i64 a0_0) := (blk_cell BK216.out 0).trans rfl; have hcz114_1 : wc.cell? ⟨gb216, 1, none⟩ = some (.int .i64 a0_1) := (blk_cell BK216.out 1).trans rfl; have hcz114_2 : wc.cell? ⟨gb216, 2, none⟩ = some (.int .i64 a0_2) := (blk_cell BK216.out 2).trans rfl; have hcz114_3 : wc.cell? ⟨gb216, 3, none⟩ = some (.int .i64 a0_3) := (blk_cell BK216.out 3).trans rfl; have hcz114_4 : wc.cell? ⟨gb216, 4, none⟩ = some (.int .i64 a0_4) := (blk_cell BK216.out 4).trans rfl; have hcz114_5 : wc.cell? ⟨gb216, 5, none⟩ = some (.string a0_5) := (blk_cell BK216.out 5).trans rfl; have hcz114_6 : wc.cell? ⟨gb216, 6, none⟩ = some (.string a0_6) := (blk_cell BK216.out 6).trans rfl; have hcz114_7 : wc.cell? ⟨gb216, 7, none⟩ = some (.string a0_7) := (blk_cell BK216.out 7).trans rfl; have hcz114_8 : wc.cell? ⟨gb216, 8, none⟩ = some (.slice A0_8 l0_8.length c0_8) := (blk_cell BK216.out 8).trans rfl; have hfz114_0 := blk_frozen BK216.out 0; have hfz114_1 := blk_frozen BK216.out 1; have hfz114_2 := blk_frozen BK216.out 2; have hfz114_3 := blk_frozen BK216.out 3; have hfz114_4 := blk_frozen BK216.out 4; have hfz114_5 := blk_frozen BK216.out 5; have hfz114_6 := blk_frozen BK216.out 6; have hfz114_7 := blk_frozen BK216.out 7; have hfz114_8 := blk_frozen BK216.out 8) | (go_at_call 48; (with_reducible refine (secateurref07_within.calls a0_3 a1 false _ A109.out).mono ?_); rintro e w' ⟨rfl, ⟨nd, rfl⟩⟩))
                        go_meet
                        case rel => exact ⟨_, (true), (by first | rfl | (simp; done) | (simp [*]; done)), H', ⟨by have := HJ4.out; have := HJ22.out; first | omega | exact Nat.le_refl _⟩, ⟨by (with_reducible repeat (first | refine blk_drewN ?_ _ | refine blk_drew ?_ | refine blk_alloc ?_ _)); exact BK216.out⟩, ⟨by repeat (first | (with_reducible first | exact HB.out | apply below_alloc | apply pw_below_drewN | apply below_drew1 | refine below_set ?_ GE216.out) | exact HB.out)⟩⟩
                  · replace c108 := Bool.eq_false_iff.mpr c108
                    subst c108
                    have H1 : (if x8_22 = true then (secateurref07_Fits.j2 kj22 a1 a2 t217 (a0_1 != 0) a0_0 a0_1 a0_2 a0_3 a0_4 a0_5 a0_6 a0_7 l0_8) else (secateurref07_Fits.j2 kj22 a1 a2 t217 false a0_0 a0_1 a0_2 a0_3 a0_4 a0_5 a0_6 a0_7 l0_8)) = some r := by rw [if_neg (show ¬ (false = true) by decide)] at H; exact H
                    clear H
                    have H := H1
                    clear H1
                    by_cases c115 : x8_22 = true
                    · subst c115
                      have H1 : (secateurref07_Fits.j2 kj22 a1 a2 t217 (a0_1 != 0) a0_0 a0_1 a0_2 a0_3 a0_4 a0_5 a0_6 a0_7 l0_8) = some r := by rw [if_pos rfl] at H; exact H
                      clear H
                      have H := H1
                      clear H1
                      as_aux_lemma =>
                        have H' := Aside0.mk H
                        clear H
                        go_wp2_with (first | ((with_reducible refine gate_callee (f := 32) rfl ?_); refine goesL_ (some 63) rfl rfl Tryd.func32 (by kernel_rfl) rfl #[.string t217, .int .u8 97] rfl (by (try simp only [List.map_toArray, List.map_cons, List.map_nil]); first | done | rfl | (simp only [List.length_drop, List.length_take]; rfl)) ?_; (with_reducible refine (secateurref07_Has.calls t217 97 false _ A59.out).mono ?_); rintro e w' ⟨rfl, ⟨nd, rfl⟩⟩; refine ⟨_, rfl, ?_⟩) | (go_at_call 32; (with_reducible refine (secateurref07_Has.calls t217 98 false _ A91.out).mono ?_); rintro e w' ⟨rfl, ⟨nd, rfl⟩⟩) | (go_at_call 32; (with_reducible refine (secateurref07_Has.calls t217 99 false _ A107.out).mono ?_); rintro e w' ⟨rfl, ⟨nd, rfl⟩⟩; have hcz116_0 : wc.cell? ⟨gb216, 0, none⟩ = some (.int .i64 a0_0) := (blk_cell BK216.out 0).trans rfl; have hcz116_1 : wc.cell? ⟨gb216, 1, none⟩ = some (.int .i64 a0_1) := (blk_cell BK216.out 1).trans rfl; have hcz116_2 : wc.cell? ⟨gb216, 2, none⟩ = some (.int .i64 a0_2) := (blk_cell BK216.out 2).trans rfl; have hcz116_3 : wc.cell? ⟨gb216, 3, none⟩ = some (.int .i64 a0_3) := (blk_cell BK216.out 3).trans rfl; have hcz116_4 : wc.cell? ⟨gb216, 4, none⟩ = some (.int .i64 a0_4) := (blk_cell BK216.out 4).trans rfl; have hcz116_5 : wc.cell? ⟨gb216, 5, none⟩ = some (.string a0_5) := (blk_cell BK216.out 5).trans rfl; have hcz116_6 : wc.cell? ⟨gb216, 6, none⟩ = some (.string a0_6) := (blk_cell BK216.out 6).trans rfl; have hcz116_7 : wc.cell? ⟨gb216, 7, none⟩ = some (.string a0_7) := (blk_cell BK216.out 7).trans rfl; have hcz116_8 : wc.cell? ⟨gb216, 8, none⟩ = some (.slice A0_8 l0_8.length c0_8) := (blk_cell BK216.out 8).trans rfl; have hfz116_0 := blk_frozen BK216.out 0; have hfz116_1 := blk_frozen BK216.out 1; have hfz116_2 := blk_frozen BK216.out 2; have hfz116_3 := blk_frozen BK216.out 3; have hfz116_4 := blk_frozen BK216.out 4; have hfz116_5 := blk_frozen BK216.out 5; have hfz116_6 := blk_frozen BK216.out 6; have hfz116_7 := blk_frozen BK216.out 7; have hfz116_8 := blk_frozen BK216.out 8))
                        go_meet
                        case rel => exact ⟨_, ((a0_1 != 0)), (by first | rfl | (simp; done) | (simp [*]; done)), H', ⟨by have := HJ4.out; have := HJ22.out; first | omega | exact Nat.le_refl _⟩, ⟨by (with_reducible repeat (first | refine blk_drewN ?_ _ | refine blk_drew ?_ | refine blk_alloc ?_ _)); exact BK216.out⟩, ⟨by repeat (first | (with_reducible first | exact HB.out | apply below_alloc | apply pw_below_drewN | apply below_drew1 | refine below_set ?_ GE216.out) | exact HB.out)⟩⟩
                    · replace c115 := Bool.eq_false_iff.mpr c115
                      subst c115
                      have H1 : (secateurref07_Fits.j2 kj22 a1 a2 t217 false a0_0 a0_1 a0_2 a0_3 a0_4 a0_5 a0_6 a0_7 l0_8) = some r := by rw [if_neg (show ¬ (false = true) by decide)] at H; exact H
                      clear H
                      have H := H1
                      clear H1
                      as_aux_lemma =>
                        have H' := Aside0.mk H
                        clear H
                        go_wp2_with (first | ((with_reducible refine gate_callee (f := 32) rfl ?_); refine goesL_ (some 63) rfl rfl Tryd.func32 (by kernel_rfl) rfl #[.string t217, .int .u8 97] rfl (by (try simp only [List.map_toArray, List.map_cons, List.map_nil]); first | done | rfl | (simp only [List.length_drop, List.length_take]; rfl)) ?_; (with_reducible refine (secateurref07_Has.calls t217 97 false _ A59.out).mono ?_); rintro e w' ⟨rfl, ⟨nd, rfl⟩⟩; refine ⟨_, rfl, ?_⟩) | (go_at_call 32; (with_reducible refine (secateurref07_Has.calls t217 98 false _ A91.out).mono ?_); rintro e w' ⟨rfl, ⟨nd, rfl⟩⟩) | (go_at_call 32; (with_reducible refine (secateurref07_Has.calls t217 99 false _ A107.out).mono ?_); rintro e w' ⟨rfl, ⟨nd, rfl⟩⟩))
                        go_meet
                        case rel => exact ⟨_, (false), (by first | rfl | (simp; done) | (simp [*]; done)), H', ⟨by have := HJ4.out; have := HJ22.out; first | omega | exact Nat.le_refl _⟩, ⟨by (with_reducible repeat (first | refine blk_drewN ?_ _ | refine blk_drew ?_ | refine blk_alloc ?_ _)); exact BK216.out⟩, ⟨by repeat (first | (with_reducible first | exact HB.out | apply below_alloc | apply pw_below_drewN | apply below_drew1 | refine below_set ?_ GE216.out) | exact HB.out)⟩⟩
            case rest =>
              clear HC58
              try clear c1
              try clear p2
              try clear c3
              try clear c6
              try clear c7
              try clear c8
              try clear c9
              try clear c10
              try clear c11
              try clear c32
              try clear c60
              try clear c62
              try clear c64
              try clear c66
              try clear c68
              try clear c70
              try clear c71
              try clear c75
              try clear c80
              try clear c82
              try clear c83
              try clear c87
              try clear c92
              try clear c94
              try clear c96
              try clear c98
              try clear c99
              try clear c103
              try clear c108
              try clear c110
              try clear c111
              try clear c115
              try clear hcz100_0
              try clear hcz100_1
              try clear hcz100_2
              try clear hcz100_3
              try clear hcz100_4
              try clear hcz100_5
              try clear hcz100_6
              try clear hcz100_7
              try clear hcz100_8
              try clear hcz101_0
              try clear hcz101_1
              try clear hcz101_2
              try clear hcz101_3
              try clear hcz101_4
              try clear hcz101_5
              try clear hcz101_6
              try clear hcz101_7
              try clear hcz101_8
              try clear hcz102_0
              try clear hcz102_1
              try clear hcz102_2
              try clear hcz102_3
              try clear hcz102_4
              try clear hcz102_5
              try clear hcz102_6
              try clear hcz102_7
              try clear hcz102_8
              try clear hcz104_0
              try clear hcz104_1
              try clear hcz104_2
              try clear hcz104_3
              try clear hcz104_4
              try clear hcz104_5
              try clear hcz104_6
              try clear hcz104_7
              try clear hcz104_8
              try clear hcz105_0
              try clear hcz105_1
              try clear hcz105_2
              try clear hcz105_3
              try clear hcz105_4
              try clear hcz105_5
              try clear hcz105_6
              try clear hcz105_7
              try clear hcz105_8
              try clear hcz106_0
              try clear hcz106_1
              try clear hcz106_2
              try clear hcz106_3
              try clear hcz106_4
              try clear hcz106_5
              try clear hcz106_6
              try clear hcz106_7
              try clear hcz106_8
              try clear hcz112_0
              try clear hcz112_1
              try clear hcz112_2
              try clear hcz112_3
              try clear hcz112_4
              try clear hcz112_5
              try clear hcz112_6
              try clear hcz112_7
              try clear hcz112_8
              try clear hcz113_0
              try clear hcz113_1
              try clear hcz113_2
              try clear hcz113_3
              try clear hcz113_4
              try clear hcz113_5
              try clear hcz113_6
              try clear hcz113_7
              try clear hcz113_8
              try clear hcz114_0
              try clear hcz114_1
              try clear hcz114_2
              try clear hcz114_3
              try clear hcz114_4
              try clear hcz114_5
              try clear hcz114_6
              try clear hcz114_7
              try clear hcz114_8
              try clear hcz116_0
              try clear hcz116_1
              try clear hcz116_2
              try clear hcz116_3
              try clear hcz116_4
              try clear hcz116_5
              try clear hcz116_6
              try clear hcz116_7
              try clear hcz116_8
              try clear hcz72_0
              try clear hcz72_1
              try clear hcz72_2
              try clear hcz72_3
              try clear hcz72_4
              try clear hcz72_5
              try clear hcz72_6
              try clear hcz72_7
              try clear hcz72_8
              try clear hcz73_0
              try clear hcz73_1
              try clear hcz73_2
              try clear hcz73_3
              try clear hcz73_4
              try clear hcz73_5
              try clear hcz73_6
              try clear hcz73_7
              try clear hcz73_8
              try clear hcz74_0
              try clear hcz74_1
              try clear hcz74_2
              try clear hcz74_3
              try clear hcz74_4
              try clear hcz74_5
              try clear hcz74_6
              try clear hcz74_7
              try clear hcz74_8
              try clear hcz76_0
              try clear hcz76_1
              try clear hcz76_2
              try clear hcz76_3
              try clear hcz76_4
              try clear hcz76_5
              try clear hcz76_6
              try clear hcz76_7
              try clear hcz76_8
              try clear hcz77_0
              try clear hcz77_1
              try clear hcz77_2
              try clear hcz77_3
              try clear hcz77_4
              try clear hcz77_5
              try clear hcz77_6
              try clear hcz77_7
              try clear hcz77_8
              try clear hcz78_0
              try clear hcz78_1
              try clear hcz78_2
              try clear hcz78_3
              try clear hcz78_4
              try clear hcz78_5
              try clear hcz78_6
              try clear hcz78_7
              try clear hcz78_8
              try clear hcz84_0
              try clear hcz84_1
              try clear hcz84_2
              try clear hcz84_3
              try clear hcz84_4
              try clear hcz84_5
              try clear hcz84_6
              try clear hcz84_7
              try clear hcz84_8
              try clear hcz85_0
              try clear hcz85_1
              try clear hcz85_2
              try clear hcz85_3
              try clear hcz85_4
              try clear hcz85_5
              try clear hcz85_6
              try clear hcz85_7
              try clear hcz85_8
              try clear hcz86_0
              try clear hcz86_1
              try clear hcz86_2
              try clear hcz86_3
              try clear hcz86_4
              try clear hcz86_5
              try clear hcz86_6
              try clear hcz86_7
              try clear hcz86_8
              try clear hcz88_0
              try clear hcz88_1
              try clear hcz88_2
              try clear hcz88_3
              try clear hcz88_4
              try clear hcz88_5
              try clear hcz88_6
              try clear hcz88_7
              try clear hcz88_8
              try clear hcz89_0
              try clear hcz89_1
              try clear hcz89_2
              try clear hcz89_3
              try clear hcz89_4
              try clear hcz89_5
              try clear hcz89_6
              try clear hcz89_7
              try clear hcz89_8
              try clear hcz90_0
              try clear hcz90_1
              try clear hcz90_2
              try clear hcz90_3
              try clear hcz90_4
              try clear hcz90_5
              try clear hcz90_6
              try clear hcz90_7
              try clear hcz90_8
              try clear hfz100_0
              try clear hfz100_1
              try clear hfz100_2
              try clear hfz100_3
              try clear hfz100_4
              try clear hfz100_5
              try clear hfz100_6
              try clear hfz100_7
              try clear hfz100_8
              try clear hfz101_0
              try clear hfz101_1
              try clear hfz101_2
              try clear hfz101_3
              try clear hfz101_4
              try clear hfz101_5
              try clear hfz101_6
              try clear hfz101_7
              try clear hfz101_8
              try clear hfz102_0
              try clear hfz102_1
              try clear hfz102_2
              try clear hfz102_3
              try clear hfz102_4
              try clear hfz102_5
              try clear hfz102_6
              try clear hfz102_7
              try clear hfz102_8
              try clear hfz104_0
              try clear hfz104_1
              try clear hfz104_2
              try clear hfz104_3
              try clear hfz104_4
              try clear hfz104_5
              try clear hfz104_6
              try clear hfz104_7
              try clear hfz104_8
              try clear hfz105_0
              try clear hfz105_1
              try clear hfz105_2
              try clear hfz105_3
              try clear hfz105_4
              try clear hfz105_5
              try clear hfz105_6
              try clear hfz105_7
              try clear hfz105_8
              try clear hfz106_0
              try clear hfz106_1
              try clear hfz106_2
              try clear hfz106_3
              try clear hfz106_4
              try clear hfz106_5
              try clear hfz106_6
              try clear hfz106_7
              try clear hfz106_8
              try clear hfz112_0
              try clear hfz112_1
              try clear hfz112_2
              try clear hfz112_3
              try clear hfz112_4
              try clear hfz112_5
              try clear hfz112_6
              try clear hfz112_7
              try clear hfz112_8
              try clear hfz113_0
              try clear hfz113_1
              try clear hfz113_2
              try clear hfz113_3
              try clear hfz113_4
              try clear hfz113_5
              try clear hfz113_6
              try clear hfz113_7
              try clear hfz113_8
              try clear hfz114_0
              try clear hfz114_1
              try clear hfz114_2
              try clear hfz114_3
              try clear hfz114_4
              try clear hfz114_5
              try clear hfz114_6
              try clear hfz114_7
              try clear hfz114_8
              try clear hfz116_0
              try clear hfz116_1
              try clear hfz116_2
              try clear hfz116_3
              try clear hfz116_4
              try clear hfz116_5
              try clear hfz116_6
              try clear hfz116_7
              try clear hfz116_8
              try clear hfz19_5
              try clear hfz19_6
              try clear hfz19_7
              try clear hfz19_8
              try clear hfz24_0
              try clear hfz24_1
              try clear hfz24_2
              try clear hfz24_3
              try clear hfz24_4
              try clear hfz24_5
              try clear hfz24_6
              try clear hfz24_7
              try clear hfz24_8
              try clear hfz29_0
              try clear hfz29_1
              try clear hfz29_2
              try clear hfz29_3
              try clear hfz29_4
              try clear hfz29_5
              try clear hfz29_6
              try clear hfz29_7
              try clear hfz29_8
              try clear hfz33_0
              try clear hfz33_1
              try clear hfz35_0
              try clear hfz35_1
              try clear hfz35_2
              try clear hfz35_3
              try clear hfz35_4
              try clear hfz35_5
              try clear hfz35_6
              try clear hfz35_7
              try clear hfz35_8
              try clear hfz36_0
              try clear hfz36_1
              try clear hfz36_2
              try clear hfz36_3
              try clear hfz36_4
              try clear hfz36_5
              try clear hfz36_6
              try clear hfz36_7
              try clear hfz36_8
              try clear hfz40_0
              try clear hfz40_1
              try clear hfz42_0
              try clear hfz42_1
              try clear hfz42_2
              try clear hfz42_3
              try clear hfz42_4
              try clear hfz42_5
              try clear hfz42_6
              try clear hfz42_7
              try clear hfz42_8
              try clear hfz44_0
              try clear hfz44_1
              try clear hfz44_2
              try clear hfz44_3
              try clear hfz44_4
              try clear hfz44_5
              try clear hfz44_6
              try clear hfz44_7
              try clear hfz44_8
              try clear hfz48_0
              try clear hfz48_1
              try clear hfz50_0
              try clear hfz50_1
              try clear hfz50_2
              try clear hfz50_3
              try clear hfz50_4
              try clear hfz50_5
              try clear hfz50_6
              try clear hfz50_7
              try clear hfz50_8
              try clear hfz51_0
              try clear hfz51_1
              try clear hfz51_2
              try clear hfz51_3
              try clear hfz51_4
              try clear hfz51_5
              try clear hfz51_6
              try clear hfz51_7
              try clear hfz51_8
              try clear hfz55_0
              try clear hfz55_1
              try clear hfz57_0
              try clear hfz57_1
              try clear hfz57_2
              try clear hfz57_3
              try clear hfz57_4
              try clear hfz57_5
              try clear hfz57_6
              try clear hfz57_7
              try clear hfz57_8
              try clear hfz72_0
              try clear hfz72_1
              try clear hfz72_2
              try clear hfz72_3
              try clear hfz72_4
              try clear hfz72_5
              try clear hfz72_6
              try clear hfz72_7
              try clear hfz72_8
              try clear hfz73_0
              try clear hfz73_1
              try clear hfz73_2
              try clear hfz73_3
              try clear hfz73_4
              try clear hfz73_5
              try clear hfz73_6
              try clear hfz73_7
              try clear hfz73_8
              try clear hfz74_0
              try clear hfz74_1
              try clear hfz74_2
              try clear hfz74_3
              try clear hfz74_4
              try clear hfz74_5
              try clear hfz74_6
              try clear hfz74_7
              try clear hfz74_8
              try clear hfz76_0
              try clear hfz76_1
              try clear hfz76_2
              try clear hfz76_3
              try clear hfz76_4
              try clear hfz76_5
              try clear hfz76_6
              try clear hfz76_7
              try clear hfz76_8
              try clear hfz77_0
              try clear hfz77_1
              try clear hfz77_2
              try clear hfz77_3
              try clear hfz77_4
              try clear hfz77_5
              try clear hfz77_6
              try clear hfz77_7
              try clear hfz77_8
              try clear hfz78_0
              try clear hfz78_1
              try clear hfz78_2
              try clear hfz78_3
              try clear hfz78_4
              try clear hfz78_5
              try clear hfz78_6
              try clear hfz78_7
              try clear hfz78_8
              try clear hfz7_0
              try clear hfz7_1
              try clear hfz7_2
              try clear hfz7_3
              try clear hfz7_4
              try clear hfz7_5
              try clear hfz7_6
              try clear hfz7_7
              try clear hfz7_8
              try clear hfz84_0
              try clear hfz84_1
              try clear hfz84_2
              try clear hfz84_3
              try clear hfz84_4
              try clear hfz84_5
              try clear hfz84_6
              try clear hfz84_7
              try clear hfz84_8
              try clear hfz85_0
              try clear hfz85_1
              try clear hfz85_2
              try clear hfz85_3
              try clear hfz85_4
              try clear hfz85_5
              try clear hfz85_6
              try clear hfz85_7
              try clear hfz85_8
              try clear hfz86_0
              try clear hfz86_1
              try clear hfz86_2
              try clear hfz86_3
              try clear hfz86_4
              try clear hfz86_5
              try clear hfz86_6
              try clear hfz86_7
              try clear hfz86_8
              try clear hfz88_0
              try clear hfz88_1
              try clear hfz88_2
              try clear hfz88_3
              try clear hfz88_4
              try clear hfz88_5
              try clear hfz88_6
              try clear hfz88_7
              try clear hfz88_8
              try clear hfz89_0
              try clear hfz89_1
              try clear hfz89_2
              try clear hfz89_3
              try clear hfz89_4
              try clear hfz89_5
              try clear hfz89_6
              try clear hfz89_7
              try clear hfz89_8
              try clear hfz90_0
              try clear hfz90_1
              try clear hfz90_2
              try clear hfz90_3
              try clear hfz90_4
              try clear hfz90_5
              try clear hfz90_6
              try clear hfz90_7
              try clear hfz90_8
              try clear hfz9_0
              try clear hfz9_1
              try clear hfz9_2
              try clear hfz9_3
              try clear hfz9_4
              try clear hfz9_5
              try clear hfz9_6
              try clear hfz9_7
              try clear hfz9_8
              try clear p2
              obtain ⟨kq, x100_57, rfl, HA, HJ57, BK216, HB⟩ := hcut
              cases kq with
              | zero => exact absurd HA.out (by simp [secateurref07_Fits.j2])
              | succ kj57 =>
                have H := HA.out
                clear HA
                simp only [secateurref07_Fits.j2] at H
                by_cases c117 : x100_57 = true
                · subst c117
                  have H1 : (some 12) = some r := by rw [if_pos rfl] at H; exact H
                  clear H
                  have H := H1
                  clear H1
                  as_aux_lemma =>
                    obtain rfl := Option.some.inj H
                    simp only [Option.some.injEq, Prod.mk.injEq] at H
                    obtain ⟨rfl⟩ := H
                    go_wp2
                    go_ret
                    exact ⟨by first | rfl | (simp [errW_none, errW_some] <;> rfl) | (simp [*, errW_none, errW_some] <;> rfl), by repeat (first | (with_reducible first | exact HB.out | apply below_alloc | apply pw_below_drewN | apply below_drew1 | refine below_set ?_ GE216.out) | exact HB.out)⟩
                · replace c117 := Bool.eq_false_iff.mpr c117
                  subst c117
                  have H1 : (secateurref07_Fits.l0 kj57 a1 a2 t217 0 a0_0 a0_1 a0_2 a0_3 a0_4 a0_5 a0_6 a0_7 l0_8) = some r := by rw [if_neg (show ¬ (false = true) by decide)] at H; exact H
                  clear H
                  have H := H1
                  clear H1
                  have H' := Aside0.mk H
                  clear H
                  go_wp2
                  go_loopg [13] kj57 (fun kq v13 w' => ∃ (x13_4 : Int), v13 = .int .i64 x13_4 ∧ Aside0 (secateurref07_Fits.l0 kq a1 a2 t217 x13_4 a0_0 a0_1 a0_2 a0_3 a0_4 a0_5 a0_6 a0_7 l0_8 = some r) ∧ Aside0 (kq ≤ kj57) ∧ Aside0 (w'.heap[gb216]? = some (.cells #[.int .i64 a0_0, .int .i64 a0_1, .int .i64 a0_2, .int .i64 a0_3, .int .i64 a0_4, .string a0_5, .string a0_6, .string a0_7, (.slice A0_8 l0_8.length c0_8)] 44 (0, 0))) ∧ Aside0 (Below w.heap.size w w'))
                  case atStart => exact ⟨(0), (by first | rfl | (simp; done) | (simp [*]; done)), H', ⟨Nat.le_refl _⟩, ⟨by (with_reducible repeat (first | refine blk_drewN ?_ _ | refine blk_drew ?_ | refine blk_alloc ?_ _)); exact BK216.out⟩, ⟨by repeat (first | (with_reducible first | exact HB.out | apply below_alloc | apply pw_below_drewN | apply below_drew1 | refine below_set ?_ GE216.out) | exact HB.out)⟩⟩
                  case round =>
                    clear H'
                    try clear c1
                    try clear p2
                    try clear c3
                    try clear c6
                    try clear c7
                    try clear c8
                    try clear c9
                    try clear c10
                    try clear c11
                    try clear c32
                    try clear c60
                    try clear c62
                    try clear c64
                    try clear c66
                    try clear c68
                    try clear c70
                    try clear c71
                    try clear c75
                    try clear c80
                    try clear c82
                    try clear c83
                    try clear c87
                    try clear c92
                    try clear c94
                    try clear c96
                    try clear c98
                    try clear c99
                    try clear c103
                    try clear c108
                    try clear c110
                    try clear c111
                    try clear c115
                    try clear c117
                    try clear hcz100_0
                    try clear hcz100_1
                    try clear hcz100_2
                    try clear hcz100_3
                    try clear hcz100_4
                    try clear hcz100_5
                    try clear hcz100_6
                    try clear hcz100_7
                    try clear hcz100_8
                    try clear hcz101_0
                    try clear hcz101_1
                    try clear hcz101_2
                    try clear hcz101_3
                    try clear hcz101_4
                    try clear hcz101_5
                    try clear hcz101_6
                    try clear hcz101_7
                    try clear hcz101_8
                    try clear hcz102_0
                    try clear hcz102_1
                    try clear hcz102_2
                    try clear hcz102_3
                    try clear hcz102_4
                    try clear hcz102_5
                    try clear hcz102_6
                    try clear hcz102_7
                    try clear hcz102_8
                    try clear hcz104_0
                    try clear hcz104_1
                    try clear hcz104_2
                    try clear hcz104_3
                    try clear hcz104_4
                    try clear hcz104_5
                    try clear hcz104_6
                    try clear hcz104_7
                    try clear hcz104_8
                    try clear hcz105_0
                    try clear hcz105_1
                    try clear hcz105_2
                    try clear hcz105_3
                    try clear hcz105_4
                    try clear hcz105_5
                    try clear hcz105_6
                    try clear hcz105_7
                    try clear hcz105_8
                    try clear hcz106_0
                    try clear hcz106_1
                    try clear hcz106_2
                    try clear hcz106_3
                    try clear hcz106_4
                    try clear hcz106_5
                    try clear hcz106_6
                    try clear hcz106_7
                    try clear hcz106_8
                    try clear hcz112_0
                    try clear hcz112_1
                    try clear hcz112_2
                    try clear hcz112_3
                    try clear hcz112_4
                    try clear hcz112_5
                    try clear hcz112_6
                    try clear hcz112_7
                    try clear hcz112_8
                    try clear hcz113_0
                    try clear hcz113_1
                    try clear hcz113_2
                    try clear hcz113_3
                    try clear hcz113_4
                    try clear hcz113_5
                    try clear hcz113_6
                    try clear hcz113_7
                    try clear hcz113_8
                    try clear hcz114_0
                    try clear hcz114_1
                    try clear hcz114_2
                    try clear hcz114_3
                    try clear hcz114_4
                    try clear hcz114_5
                    try clear hcz114_6
                    try clear hcz114_7
                    try clear hcz114_8
                    try clear hcz116_0
                    try clear hcz116_1
                    try clear hcz116_2
                    try clear hcz116_3
                    try clear hcz116_4
                    try clear hcz116_5
                    try clear hcz116_6
                    try clear hcz116_7
                    try clear hcz116_8
                    try clear hcz72_0
                    try clear hcz72_1
                    try clear hcz72_2
                    try clear hcz72_3
                    try clear hcz72_4
                    try clear hcz72_5
                    try clear hcz72_6
                    try clear hcz72_7
                    try clear hcz72_8
                    try clear hcz73_0
                    try clear hcz73_1
                    try clear hcz73_2
                    try clear hcz73_3
                    try clear hcz73_4
                    try clear hcz73_5
                    try clear hcz73_6
                    try clear hcz73_7
                    try clear hcz73_8
                    try clear hcz74_0
                    try clear hcz74_1
                    try clear hcz74_2
                    try clear hcz74_3
                    try clear hcz74_4
                    try clear hcz74_5
                    try clear hcz74_6
                    try clear hcz74_7
                    try clear hcz74_8
                    try clear hcz76_0
                    try clear hcz76_1
                    try clear hcz76_2
                    try clear hcz76_3
                    try clear hcz76_4
                    try clear hcz76_5
                    try clear hcz76_6
                    try clear hcz76_7
                    try clear hcz76_8
                    try clear hcz77_0
                    try clear hcz77_1
                    try clear hcz77_2
                    try clear hcz77_3
                    try clear hcz77_4
                    try clear hcz77_5
                    try clear hcz77_6
                    try clear hcz77_7
                    try clear hcz77_8
                    try clear hcz78_0
                    try clear hcz78_1
                    try clear hcz78_2
                    try clear hcz78_3
                    try clear hcz78_4
                    try clear hcz78_5
                    try clear hcz78_6
                    try clear hcz78_7
                    try clear hcz78_8
                    try clear hcz84_0
                    try clear hcz84_1
                    try clear hcz84_2
                    try clear hcz84_3
                    try clear hcz84_4
                    try clear hcz84_5
                    try clear hcz84_6
                    try clear hcz84_7
                    try clear hcz84_8
                    try clear hcz85_0
                    try clear hcz85_1
                    try clear hcz85_2
                    try clear hcz85_3
                    try clear hcz85_4
                    try clear hcz85_5
                    try clear hcz85_6
                    try clear hcz85_7
                    try clear hcz85_8
                    try clear hcz86_0
                    try clear hcz86_1
                    try clear hcz86_2
                    try clear hcz86_3
                    try clear hcz86_4
                    try clear hcz86_5
                    try clear hcz86_6
                    try clear hcz86_7
                    try clear hcz86_8
                    try clear hcz88_0
                    try clear hcz88_1
                    try clear hcz88_2
                    try clear hcz88_3
                    try clear hcz88_4
                    try clear hcz88_5
                    try clear hcz88_6
                    try clear hcz88_7
                    try clear hcz88_8
                    try clear hcz89_0
                    try clear hcz89_1
                    try clear hcz89_2
                    try clear hcz89_3
                    try clear hcz89_4
                    try clear hcz89_5
                    try clear hcz89_6
                    try clear hcz89_7
                    try clear hcz89_8
                    try clear hcz90_0
                    try clear hcz90_1
                    try clear hcz90_2
                    try clear hcz90_3
                    try clear hcz90_4
                    try clear hcz90_5
                    try clear hcz90_6
                    try clear hcz90_7
                    try clear hcz90_8
                    try clear hfz100_0
                    try clear hfz100_1
                    try clear hfz100_2
                    try clear hfz100_3
                    try clear hfz100_4
                    try clear hfz100_5
                    try clear hfz100_6
                    try clear hfz100_7
                    try clear hfz100_8
                    try clear hfz101_0
                    try clear hfz101_1
                    try clear hfz101_2
                    try clear hfz101_3
                    try clear hfz101_4
                    try clear hfz101_5
                    try clear hfz101_6
                    try clear hfz101_7
                    try clear hfz101_8
                    try clear hfz102_0
                    try clear hfz102_1
                    try clear hfz102_2
                    try clear hfz102_3
                    try clear hfz102_4
                    try clear hfz102_5
                    try clear hfz102_6
                    try clear hfz102_7
                    try clear hfz102_8
                    try clear hfz104_0
                    try clear hfz104_1
                    try clear hfz104_2
                    try clear hfz104_3
                    try clear hfz104_4
                    try clear hfz104_5
                    try clear hfz104_6
                    try clear hfz104_7
                    try clear hfz104_8
                    try clear hfz105_0
                    try clear hfz105_1
                    try clear hfz105_2
                    try clear hfz105_3
                    try clear hfz105_4
                    try clear hfz105_5
                    try clear hfz105_6
                    try clear hfz105_7
                    try clear hfz105_8
                    try clear hfz106_0
                    try clear hfz106_1
                    try clear hfz106_2
                    try clear hfz106_3
                    try clear hfz106_4
                    try clear hfz106_5
                    try clear hfz106_6
                    try clear hfz106_7
                    try clear hfz106_8
                    try clear hfz112_0
                    try clear hfz112_1
                    try clear hfz112_2
                    try clear hfz112_3
                    try clear hfz112_4
                    try clear hfz112_5
                    try clear hfz112_6
                    try clear hfz112_7
                    try clear hfz112_8
                    try clear hfz113_0
                    try clear hfz113_1
                    try clear hfz113_2
                    try clear hfz113_3
                    try clear hfz113_4
                    try clear hfz113_5
                    try clear hfz113_6
                    try clear hfz113_7
                    try clear hfz113_8
                    try clear hfz114_0
                    try clear hfz114_1
                    try clear hfz114_2
                    try clear hfz114_3
                    try clear hfz114_4
                    try clear hfz114_5
                    try clear hfz114_6
                    try clear hfz114_7
                    try clear hfz114_8
                    try clear hfz116_0
                    try clear hfz116_1
                    try clear hfz116_2
                    try clear hfz116_3
                    try clear hfz116_4
                    try clear hfz116_5
                    try clear hfz116_6
                    try clear hfz116_7
                    try clear hfz116_8
                    try clear hfz19_5
                    try clear hfz19_6
                    try clear hfz19_7
                    try clear hfz19_8
                    try clear hfz24_0
                    try clear hfz24_1
                    try clear hfz24_2
                    try clear hfz24_3
                    try clear hfz24_4
                    try clear hfz24_5
                    try clear hfz24_6
                    try clear hfz24_7
                    try clear hfz24_8
                    try clear hfz29_0
                    try clear hfz29_1
                    try clear hfz29_2
                    try clear hfz29_3
                    try clear hfz29_4
                    try clear hfz29_5
                    try clear hfz29_6
                    try clear hfz29_7
                    try clear hfz29_8
                    try clear hfz33_0
                    try clear hfz33_1
                    try clear hfz35_0
                    try clear hfz35_1
                    try clear hfz35_2
                    try clear hfz35_3
                    try clear hfz35_4
                    try clear hfz35_5
                    try clear hfz35_6
                    try clear hfz35_7
                    try clear hfz35_8
                    try clear hfz36_0
                    try clear hfz36_1
                    try clear hfz36_2
                    try clear hfz36_3
                    try clear hfz36_4
                    try clear hfz36_5
                    try clear hfz36_6
                    try clear hfz36_7
                    try clear hfz36_8
                    try clear hfz40_0
                    try clear hfz40_1
                    try clear hfz42_0
                    try clear hfz42_1
                    try clear hfz42_2
                    try clear hfz42_3
                    try clear hfz42_4
                    try clear hfz42_5
                    try clear hfz42_6
                    try clear hfz42_7
                    try clear hfz42_8
                    try clear hfz44_0
                    try clear hfz44_1
                    try clear hfz44_2
                    try clear hfz44_3
                    try clear hfz44_4
                    try clear hfz44_5
                    try clear hfz44_6
                    try clear hfz44_7
                    try clear hfz44_8
                    try clear hfz48_0
                    try clear hfz48_1
                    try clear hfz50_0
                    try clear hfz50_1
                    try clear hfz50_2
                    try clear hfz50_3
                    try clear hfz50_4
                    try clear hfz50_5
                    try clear hfz50_6
                    try clear hfz50_7
                    try clear hfz50_8
                    try clear hfz51_0
                    try clear hfz51_1
                    try clear hfz51_2
                    try clear hfz51_3
                    try clear hfz51_4
                    try clear hfz51_5
                    try clear hfz51_6
                    try clear hfz51_7
                    try clear hfz51_8
                    try clear hfz55_0
                    try clear hfz55_1
                    try clear hfz57_0
                    try clear hfz57_1
                    try clear hfz57_2
                    try clear hfz57_3
                    try clear hfz57_4
                    try clear hfz57_5
                    try clear hfz57_6
                    try clear hfz57_7
                    try clear hfz57_8
                    try clear hfz72_0
                    try clear hfz72_1
                    try clear hfz72_2
                    try clear hfz72_3
                    try clear hfz72_4
                    try clear hfz72_5
                    try clear hfz72_6
                    try clear hfz72_7
                    try clear hfz72_8
                    try clear hfz73_0
                    try clear hfz73_1
                    try clear hfz73_2
                    try clear hfz73_3
                    try clear hfz73_4
                    try clear hfz73_5
                    try clear hfz73_6
                    try clear hfz73_7
                    try clear hfz73_8
                    try clear hfz74_0
                    try clear hfz74_1
                    try clear hfz74_2
                    try clear hfz74_3
                    try clear hfz74_4
                    try clear hfz74_5
                    try clear hfz74_6
                    try clear hfz74_7
                    try clear hfz74_8
                    try clear hfz76_0
                    try clear hfz76_1
                    try clear hfz76_2
                    try clear hfz76_3
                    try clear hfz76_4
                    try clear hfz76_5
                    try clear hfz76_6
                    try clear hfz76_7
                    try clear hfz76_8
                    try clear hfz77_0
                    try clear hfz77_1
                    try clear hfz77_2
                    try clear hfz77_3
                    try clear hfz77_4
                    try clear hfz77_5
                    try clear hfz77_6
                    try clear hfz77_7
                    try clear hfz77_8
                    try clear hfz78_0
                    try clear hfz78_1
                    try clear hfz78_2
                    try clear hfz78_3
                    try clear hfz78_4
                    try clear hfz78_5
                    try clear hfz78_6
                    try clear hfz78_7
                    try clear hfz78_8
                    try clear hfz7_0
                    try clear hfz7_1
                    try clear hfz7_2
                    try clear hfz7_3
                    try clear hfz7_4
                    try clear hfz7_5
                    try clear hfz7_6
                    try clear hfz7_7
                    try clear hfz7_8
                    try clear hfz84_0
                    try clear hfz84_1
                    try clear hfz84_2
                    try clear hfz84_3
                    try clear hfz84_4
                    try clear hfz84_5
                    try clear hfz84_6
                    try clear hfz84_7
                    try clear hfz84_8
                    try clear hfz85_0
                    try clear hfz85_1
                    try clear hfz85_2
                    try clear hfz85_3
                    try clear hfz85_4
                    try clear hfz85_5
                    try clear hfz85_6
                    try clear hfz85_7
                    try clear hfz85_8
                    try clear hfz86_0
                    try clear hfz86_1
                    try clear hfz86_2
                    try clear hfz86_3
                    try clear hfz86_4
                    try clear hfz86_5
                    try clear hfz86_6
                    try clear hfz86_7
                    try clear hfz86_8
                    try clear hfz88_0
                    try clear hfz88_1
                    try clear hfz88_2
                    try clear hfz88_3
                    try clear hfz88_4
                    try clear hfz88_5
                    try clear hfz88_6
                    try clear hfz88_7
                    try clear hfz88_8
                    try clear hfz89_0
                    try clear hfz89_1
                    try clear hfz89_2
                    try clear hfz89_3
                    try clear hfz89_4
                    try clear hfz89_5
                    try clear hfz89_6
                    try clear hfz89_7
                    try clear hfz89_8
                    try clear hfz90_0
                    try clear hfz90_1
                    try clear hfz90_2
                    try clear hfz90_3
                    try clear hfz90_4
                    try clear hfz90_5
                    try clear hfz90_6
                    try clear hfz90_7
                    try clear hfz90_8
                    try clear hfz9_0
                    try clear hfz9_1
                    try clear hfz9_2
                    try clear hfz9_3
                    try clear hfz9_4
                    try clear hfz9_5
                    try clear hfz9_6
                    try clear hfz9_7
                    try clear hfz9_8
                    try clear p2
                    obtain ⟨x13_4, rfl, HA, HK4, BK216, HB⟩ := hrel
                    cases gk with
                    | zero => exact absurd HA.out (by simp [secateurref07_Fits.l0])
                    | succ k4 =>
                      have H := HA.out
                      clear HA
                      simp only [secateurref07_Fits.l0] at H
                      by_cases c118 : x13_4 < (l0_8.length : Int)
                      · rw [if_pos c118] at H
                        have c118b0 : decide (x13_4 < (l0_8.length : Int)) = true := decide_eq_true c118
                        clear c118
                        by_cases c119 : 0 ≤ x13_4
                        · rw [if_pos c119] at H
                          have c119b0 : decide (0 ≤ x13_4) = true := decide_eq_true c119
                          clear c119
                          replace H := Option.bind_eq_some_iff.mp H
                          obtain ⟨t243, A1200, H⟩ := H
                          replace H : (if t243 = true then (secateurref07_Fits.l0 k4 a1 a2 t217 (wrap64 (x13_4 + 1)) a0_0 a0_1 a0_2 a0_3 a0_4 a0_5 a0_6 a0_7 l0_8) else (some 12)) = some r := H
                          have A120 := Aside0.mk A1200
                          clear A1200
                          by_cases c121 : t243 = true
                          · subst c121
                            have H1 : (secateurref07_Fits.l0 k4 a1 a2 t217 (wrap64 (x13_4 + 1)) a0_0 a0_1 a0_2 a0_3 a0_4 a0_5 a0_6 a0_7 l0_8) = some r := by rw [if_pos rfl] at H; exact H
                            clear H
                            have H := H1
                            clear H1
                            as_aux_lemma =>
                              have H' := Aside0.mk H
                              clear H
                              have hcz122_0 : wr.cell? ⟨gb216, 0, none⟩ = some (.int .i64 a0_0) := (blk_cell BK216.out 0).trans rfl
                              have hcz122_1 : wr.cell? ⟨gb216, 1, none⟩ = some (.int .i64 a0_1) := (blk_cell BK216.out 1).trans rfl
                              have hcz122_2 : wr.cell? ⟨gb216, 2, none⟩ = some (.int .i64 a0_2) := (blk_cell BK216.out 2).trans rfl
                              have hcz122_3 : wr.cell? ⟨gb216, 3, none⟩ = some (.int .i64 a0_3) := (blk_cell BK216.out 3).trans rfl
                              have hcz122_4 : wr.cell? ⟨gb216, 4, none⟩ = some (.int .i64 a0_4) := (blk_cell BK216.out 4).trans rfl
                              have hcz122_5 : wr.cell? ⟨gb216, 5, none⟩ = some (.string a0_5) := (blk_cell BK216.out 5).trans rfl
                              have hcz122_6 : wr.cell? ⟨gb216, 6, none⟩ = some (.string a0_6) := (blk_cell BK216.out 6).trans rfl
                              have hcz122_7 : wr.cell? ⟨gb216, 7, none⟩ = some (.string a0_7) := (blk_cell BK216.out 7).trans rfl
                              have hcz122_8 : wr.cell? ⟨gb216, 8, none⟩ = some (.slice A0_8 l0_8.length c0_8) := (blk_cell BK216.out 8).trans rfl
                              have hfz122_0 := blk_frozen BK216.out 0
                              have hfz122_1 := blk_frozen BK216.out 1
                              have hfz122_2 := blk_frozen BK216.out 2
                              have hfz122_3 := blk_frozen BK216.out 3
                              have hfz122_4 := blk_frozen BK216.out 4
                              have hfz122_5 := blk_frozen BK216.out 5
                              have hfz122_6 := blk_frozen BK216.out 6
                              have hfz122_7 := blk_frozen BK216.out 7
                              have hfz122_8 := blk_frozen BK216.out 8
                              have p242 : 0 ≤ (x13_4 : Int) := of_decide_eq_true (by first | (with_reducible assumption) | assumption)
                              have q242 : x13_4 < (l0_8.length : Int) := of_decide_eq_true (by first | (with_reducible assumption) | assumption)
                              obtain ⟨ad242, e242, hx242_0⟩ := Kd.at_int HR0_8.out x13_4 p242 q242
                              cases e242
                              replace hx242_0 := (HB.out.cell (World.block_lt_of_cell? w _ hx242_0)).trans hx242_0
                              replace p242 := eq_true p242
                              replace q242 := eq_true q242
                              go_wp2_with (first | ((with_reducible refine gate_callee (f := 48) rfl ?_); refine goesL_ (some 114) rfl rfl Tryd.func48 (by kernel_rfl) rfl #[.int .i64 (rd l0_8 x13_4), .int .i64 a1] rfl (by (try simp only [List.map_toArray, List.map_cons, List.map_nil]); first | done | rfl | (simp only [List.length_drop, List.length_take]; rfl)) ?_; (with_reducible refine (secateurref07_within.calls (rd l0_8 x13_4) a1 true _ A120.out).mono ?_); rintro e w' ⟨rfl, ⟨nd, rfl⟩⟩; refine ⟨_, rfl, ?_⟩))
                              go_roundg k4
                              case measure => have := HJ4.out; have := HJ22.out; have := HJ57.out; have := HK4.out; omega
                              case rel => exact ⟨(wrap64 (x13_4 + 1)), (by first | rfl | (simp; done) | (simp [*]; done)), H', ⟨by have := HJ4.out; have := HJ22.out; have := HJ57.out; have := HK4.out; omega⟩, ⟨by (with_reducible repeat (first | refine blk_drewN ?_ _ | refine blk_drew ?_ | refine blk_alloc ?_ _)); exact BK216.out⟩, ⟨by repeat (first | (with_reducible first | exact HB.out | apply below_alloc | apply pw_below_drewN | apply below_drew1 | refine below_set ?_ GE216.out) | exact HB.out)⟩⟩
                          · replace c121 := Bool.eq_false_iff.mpr c121
                            subst c121
                            have H1 : (some 12) = some r := by rw [if_neg (show ¬ (false = true) by decide)] at H; exact H
                            clear H
                            have H := H1
                            clear H1
                            as_aux_lemma =>
                              obtain rfl := Option.some.inj H
                              simp only [Option.some.injEq, Prod.mk.injEq] at H
                              obtain ⟨rfl⟩ := H
                              have hcz123_0 : wr.cell? ⟨gb216, 0, none⟩ = some (.int .i64 a0_0) := (blk_cell BK216.out 0).trans rfl
                              have hcz123_1 : wr.cell? ⟨gb216, 1, none⟩ = some (.int .i64 a0_1) := (blk_cell BK216.out 1).trans rfl
                              have hcz123_2 : wr.cell? ⟨gb216, 2, none⟩ = some (.int .i64 a0_2) := (blk_cell BK216.out 2).trans rfl
                              have hcz123_3 : wr.cell? ⟨gb216, 3, none⟩ = some (.int .i64 a0_3) := (blk_cell BK216.out 3).trans rfl
                              have hcz123_4 : wr.cell? ⟨gb216, 4, none⟩ = some (.int .i64 a0_4) := (blk_cell BK216.out 4).trans rfl
                              have hcz123_5 : wr.cell? ⟨gb216, 5, none⟩ = some (.string a0_5) := (blk_cell BK216.out 5).trans rfl
                              have hcz123_6 : wr.cell? ⟨gb216, 6, none⟩ = some (.string a0_6) := (blk_cell BK216.out 6).trans rfl
                              have hcz123_7 : wr.cell? ⟨gb216, 7, none⟩ = some (.string a0_7) := (blk_cell BK216.out 7).trans rfl
                              have hcz123_8 : wr.cell? ⟨gb216, 8, none⟩ = some (.slice A0_8 l0_8.length c0_8) := (blk_cell BK216.out 8).trans rfl
                              have hfz123_0 := blk_frozen BK216.out 0
                              have hfz123_1 := blk_frozen BK216.out 1
                              have hfz123_2 := blk_frozen BK216.out 2
                              have hfz123_3 := blk_frozen BK216.out 3
                              have hfz123_4 := blk_frozen BK216.out 4
                              have hfz123_5 := blk_frozen BK216.out 5
                              have hfz123_6 := blk_frozen BK216.out 6
                              have hfz123_7 := blk_frozen BK216.out 7
                              have hfz123_8 := blk_frozen BK216.out 8
                              have p242 : 0 ≤ (x13_4 : Int) := of_decide_eq_true (by first | (with_reducible assumption) | assumption)
                              have q242 : x13_4 < (l0_8.length : Int) := of_decide_eq_true (by first | (with_reducible assumption) | assumption)
                              obtain ⟨ad242, e242, hx242_0⟩ := Kd.at_int HR0_8.out x13_4 p242 q242
                              cases e242
                              replace hx242_0 := (HB.out.cell (World.block_lt_of_cell? w _ hx242_0)).trans hx242_0
                              replace p242 := eq_true p242
                              replace q242 := eq_true q242
                              go_wp2_with (first | ((with_reducible refine gate_callee (f := 48) rfl ?_); refine goesL_ (some 114) rfl rfl Tryd.func48 (by kernel_rfl) rfl #[.int .i64 (rd l0_8 x13_4), .int .i64 a1] rfl (by (try simp only [List.map_toArray, List.map_cons, List.map_nil]); first | done | rfl | (simp only [List.length_drop, List.length_take]; rfl)) ?_; (with_reducible refine (secateurref07_within.calls (rd l0_8 x13_4) a1 false _ A120.out).mono ?_); rintro e w' ⟨rfl, ⟨nd, rfl⟩⟩; refine ⟨_, rfl, ?_⟩))
                              go_ret
                              exact ⟨by first | rfl | (simp [errW_none, errW_some] <;> rfl) | (simp [*, errW_none, errW_some] <;> rfl), by repeat (first | (with_reducible first | exact HB.out | apply below_alloc | apply pw_below_drewN | apply below_drew1 | refine below_set ?_ GE216.out) | exact HB.out)⟩
                        · rw [if_neg c119] at H
                          exact absurd H (by simp)
                      · rw [if_neg c118] at H
                        have c118b0 : decide (x13_4 < (l0_8.length : Int)) = false := decide_eq_false c118
                        clear c118
                        replace H := Option.bind_eq_some_iff.mp H
                        obtain ⟨t244, A1240, H⟩ := H
                        replace H : (if t244 = true then (if a0_4 < 0 then (some 12) else (if a0_4 ≥ a2 then (some 12) else ((secateurref07_Has.f t217 114).bind fun t245 => (if t245 = true then (if a0_4 > 9 then (some 12) else (some 0)) else (some 0))))) else ((secateurref07_Has.f t217 114).bind fun t246 => (if t246 = true then (if a0_4 < 0 then (some 12) else (if a0_4 > 9 then (some 12) else (some 0))) else (some 0)))) = some r := H
                        have A124 := Aside0.mk A1240
                        clear A1240
                        by_cases c125 : t244 = true
                        · subst c125
                          have H1 : (if a0_4 < 0 then (some 12) else (if a0_4 ≥ a2 then (some 12) else ((secateurref07_Has.f t217 114).bind fun t245 => (if t245 = true then (if a0_4 > 9 then (some 12) else (some 0)) else (some 0))))) = some r := by rw [if_pos rfl] at H; exact H
                          clear H
                          have H := H1
                          clear H1
                          by_cases c126 : a0_4 < 0
                          · rw [if_pos c126] at H
                            have c126b0 : decide (a0_4 < 0) = true := decide_eq_true c126
                            clear c126
                            as_aux_lemma =>
                              obtain rfl := Option.some.inj H
                              simp only [Option.some.injEq, Prod.mk.injEq] at H
                              obtain ⟨rfl⟩ := H
                              have hcz127_0 : wr.cell? ⟨gb216, 0, none⟩ = some (.int .i64 a0_0) := (blk_cell BK216.out 0).trans rfl
                              have hcz127_1 : wr.cell? ⟨gb216, 1, none⟩ = some (.int .i64 a0_1) := (blk_cell BK216.out 1).trans rfl
                              have hcz127_2 : wr.cell? ⟨gb216, 2, none⟩ = some (.int .i64 a0_2) := (blk_cell BK216.out 2).trans rfl
                              have hcz127_3 : wr.cell? ⟨gb216, 3, none⟩ = some (.int .i64 a0_3) := (blk_cell BK216.out 3).trans rfl
                              have hcz127_4 : wr.cell? ⟨gb216, 4, none⟩ = some (.int .i64 a0_4) := (blk_cell BK216.out 4).trans rfl
                              have hcz127_5 : wr.cell? ⟨gb216, 5, none⟩ = some (.string a0_5) := (blk_cell BK216.out 5).trans rfl
                              have hcz127_6 : wr.cell? ⟨gb216, 6, none⟩ = some (.string a0_6) := (blk_cell BK216.out 6).trans rfl
                              have hcz127_7 : wr.cell? ⟨gb216, 7, none⟩ = some (.string a0_7) := (blk_cell BK216.out 7).trans rfl
                              have hcz127_8 : wr.cell? ⟨gb216, 8, none⟩ = some (.slice A0_8 l0_8.length c0_8) := (blk_cell BK216.out 8).trans rfl
                              have hfz127_0 := blk_frozen BK216.out 0
                              have hfz127_1 := blk_frozen BK216.out 1
                              have hfz127_2 := blk_frozen BK216.out 2
                              have hfz127_3 := blk_frozen BK216.out 3
                              have hfz127_4 := blk_frozen BK216.out 4
                              have hfz127_5 := blk_frozen BK216.out 5
                              have hfz127_6 := blk_frozen BK216.out 6
                              have hfz127_7 := blk_frozen BK216.out 7
                              have hfz127_8 := blk_frozen BK216.out 8
                              go_wp2_with (first | ((with_reducible refine gate_callee (f := 32) rfl ?_); refine goesL_ (some 117) rfl rfl Tryd.func32 (by kernel_rfl) rfl #[.string t217, .int .u8 116] rfl (by (try simp only [List.map_toArray, List.map_cons, List.map_nil]); first | done | rfl | (simp only [List.length_drop, List.length_take]; rfl)) ?_; (with_reducible refine (secateurref07_Has.calls t217 116 true _ A124.out).mono ?_); rintro e w' ⟨rfl, ⟨nd, rfl⟩⟩; refine ⟨_, rfl, ?_⟩))
                              go_ret
                              exact ⟨by first | rfl | (simp [errW_none, errW_some] <;> rfl) | (simp [*, errW_none, errW_some] <;> rfl), by repeat (first | (with_reducible first | exact HB.out | apply below_alloc | apply pw_below_drewN | apply below_drew1 | refine below_set ?_ GE216.out) | exact HB.out)⟩
                          · rw [if_neg c126] at H
                            have c126b0 : decide (a0_4 < 0) = false := decide_eq_false c126
                            clear c126
                            by_cases c128 : a0_4 ≥ a2
                            · rw [if_pos c128] at H
                              have c128b0 : decide (a2 ≤ a0_4) = true := decide_eq_true c128
                              clear c128
                              as_aux_lemma =>
                                obtain rfl := Option.some.inj H
                                simp only [Option.some.injEq, Prod.mk.injEq] at H
                                obtain ⟨rfl⟩ := H
                                have hcz129_0 : wr.cell? ⟨gb216, 0, none⟩ = some (.int .i64 a0_0) := (blk_cell BK216.out 0).trans rfl
                                have hcz129_1 : wr.cell? ⟨gb216, 1, none⟩ = some (.int .i64 a0_1) := (blk_cell BK216.out 1).trans rfl
                                have hcz129_2 : wr.cell? ⟨gb216, 2, none⟩ = some (.int .i64 a0_2) := (blk_cell BK216.out 2).trans rfl
                                have hcz129_3 : wr.cell? ⟨gb216, 3, none⟩ = some (.int .i64 a0_3) := (blk_cell BK216.out 3).trans rfl
                                have hcz129_4 : wr.cell? ⟨gb216, 4, none⟩ = some (.int .i64 a0_4) := (blk_cell BK216.out 4).trans rfl
                                have hcz129_5 : wr.cell? ⟨gb216, 5, none⟩ = some (.string a0_5) := (blk_cell BK216.out 5).trans rfl
                                have hcz129_6 : wr.cell? ⟨gb216, 6, none⟩ = some (.string a0_6) := (blk_cell BK216.out 6).trans rfl
                                have hcz129_7 : wr.cell? ⟨gb216, 7, none⟩ = some (.string a0_7) := (blk_cell BK216.out 7).trans rfl
                                have hcz129_8 : wr.cell? ⟨gb216, 8, none⟩ = some (.slice A0_8 l0_8.length c0_8) := (blk_cell BK216.out 8).trans rfl
                                have hfz129_0 := blk_frozen BK216.out 0
                                have hfz129_1 := blk_frozen BK216.out 1
                                have hfz129_2 := blk_frozen BK216.out 2
                                have hfz129_3 := blk_frozen BK216.out 3
                                have hfz129_4 := blk_frozen BK216.out 4
                                have hfz129_5 := blk_frozen BK216.out 5
                                have hfz129_6 := blk_frozen BK216.out 6
                                have hfz129_7 := blk_frozen BK216.out 7
                                have hfz129_8 := blk_frozen BK216.out 8
                                go_wp2_with (first | ((with_reducible refine gate_callee (f := 32) rfl ?_); refine goesL_ (some 117) rfl rfl Tryd.func32 (by kernel_rfl) rfl #[.string t217, .int .u8 116] rfl (by (try simp only [List.map_toArray, List.map_cons, List.map_nil]); first | done | rfl | (simp only [List.length_drop, List.length_take]; rfl)) ?_; (with_reducible refine (secateurref07_Has.calls t217 116 true _ A124.out).mono ?_); rintro e w' ⟨rfl, ⟨nd, rfl⟩⟩; refine ⟨_, rfl, ?_⟩))
                                go_ret
                                exact ⟨by first | rfl | (simp [errW_none, errW_some] <;> rfl) | (simp [*, errW_none, errW_some] <;> rfl), by repeat (first | (with_reducible first | exact HB.out | apply below_alloc | apply pw_below_drewN | apply below_drew1 | refine below_set ?_ GE216.out) | exact HB.out)⟩
                            · rw [if_neg c128] at H
                              have c128b0 : decide (a2 ≤ a0_4) = false := decide_eq_false c128
                              clear c128
                              replace H := Option.bind_eq_some_iff.mp H
                              obtain ⟨t245, A1300, H⟩ := H
                              replace H : (if t245 = true then (if a0_4 > 9 then (some 12) else (some 0)) else (some 0)) = some r := H
                              have A130 := Aside0.mk A1300
                              clear A1300
                              by_cases c131 : t245 = true
                              · subst c131
                                have H1 : (if a0_4 > 9 then (some 12) else (some 0)) = some r := by rw [if_pos rfl] at H; exact H
                                clear H
                                have H := H1
                                clear H1
                                by_cases c132 : a0_4 > 9
                                · rw [if_pos c132] at H
                                  have c132b0 : decide (9 < a0_4) = true := decide_eq_true c132
                                  clear c132
                                  as_aux_lemma =>
                                    obtain rfl := Option.some.inj H
                                    simp only [Option.some.injEq, Prod.mk.injEq] at H
                                    obtain ⟨rfl⟩ := H
                                    have hcz133_0 : wr.cell? ⟨gb216, 0, none⟩ = some (.int .i64 a0_0) := (blk_cell BK216.out 0).trans rfl
                                    have hcz133_1 : wr.cell? ⟨gb216, 1, none⟩ = some (.int .i64 a0_1) := (blk_cell BK216.out 1).trans rfl
                                    have hcz133_2 : wr.cell? ⟨gb216, 2, none⟩ = some (.int .i64 a0_2) := (blk_cell BK216.out 2).trans rfl
                                    have hcz133_3 : wr.cell? ⟨gb216, 3, none⟩ = some (.int .i64 a0_3) := (blk_cell BK216.out 3).trans rfl
                                    have hcz133_4 : wr.cell? ⟨gb216, 4, none⟩ = some (.int .i64 a0_4) := (blk_cell BK216.out 4).trans rfl
                                    have hcz133_5 : wr.cell? ⟨gb216, 5, none⟩ = some (.string a0_5) := (blk_cell BK216.out 5).trans rfl
                                    have hcz133_6 : wr.cell? ⟨gb216, 6, none⟩ = some (.string a0_6) := (blk_cell BK216.out 6).trans rfl
                                    have hcz133_7 : wr.cell? ⟨gb216, 7, none⟩ = some (.string a0_7) := (blk_cell BK216.out 7).trans rfl
                                    have hcz133_8 : wr.cell? ⟨gb216, 8, none⟩ = some (.slice A0_8 l0_8.length c0_8) := (blk_cell BK216.out 8).trans rfl
                                    have hfz133_0 := blk_frozen BK216.out 0
                                    have hfz133_1 := blk_frozen BK216.out 1
                                    have hfz133_2 := blk_frozen BK216.out 2
                                    have hfz133_3 := blk_frozen BK216.out 3
                                    have hfz133_4 := blk_frozen BK216.out 4
                                    have hfz133_5 := blk_frozen BK216.out 5
                                    have hfz133_6 := blk_frozen BK216.out 6
                                    have hfz133_7 := blk_frozen BK216.out 7
                                    have hfz133_8 := blk_frozen BK216.out 8
                                    go_wp2_with (first | ((with_reducible refine gate_callee (f := 32) rfl ?_); refine goesL_ (some 117) rfl rfl Tryd.func32 (by kernel_rfl) rfl #[.string t217, .int .u8 116] rfl (by (try simp only [List.map_toArray, List.map_cons, List.map_nil]); first | done | rfl | (simp only [List.length_drop, List.length_take]; rfl)) ?_; (with_reducible refine (secateurref07_Has.calls t217 116 true _ A124.out).mono ?_); rintro e w' ⟨rfl, ⟨nd, rfl⟩⟩; refine ⟨_, rfl, ?_⟩) | (go_at_call 32; (with_reducible refine (secateurref07_Has.calls t217 114 true _ A130.out).mono ?_); rintro e w' ⟨rfl, ⟨nd, rfl⟩⟩))
                                    go_ret
                                    exact ⟨by first | rfl | (simp [errW_none, errW_some] <;> rfl) | (simp [*, errW_none, errW_some] <;> rfl), by repeat (first | (with_reducible first | exact HB.out | apply below_alloc | apply pw_below_drewN | apply below_drew1 | refine below_set ?_ GE216.out) | exact HB.out)⟩
                                · rw [if_neg c132] at H
                                  have c132b0 : decide (9 < a0_4) = false := decide_eq_false c132
                                  clear c132
                                  as_aux_lemma =>
                                    obtain rfl := Option.some.inj H
                                    simp only [Option.some.injEq, Prod.mk.injEq] at H
                                    obtain ⟨rfl⟩ := H
                                    have hcz134_0 : wr.cell? ⟨gb216, 0, none⟩ = some (.int .i64 a0_0) := (blk_cell BK216.out 0).trans rfl
                                    have hcz134_1 : wr.cell? ⟨gb216, 1, none⟩ = some (.int .i64 a0_1) := (blk_cell BK216.out 1).trans rfl
                                    have hcz134_2 : wr.cell? ⟨gb216, 2, none⟩ = some (.int .i64 a0_2) := (blk_cell BK216.out 2).trans rfl
                                    have hcz134_3 : wr.cell? ⟨gb216, 3, none⟩ = some (.int .i64 a0_3) := (blk_cell BK216.out 3).trans rfl
                                    have hcz134_4 : wr.cell? ⟨gb216, 4, none⟩ = some (.int .i64 a0_4) := (blk_cell BK216.out 4).trans rfl
                                    have hcz134_5 : wr.cell? ⟨gb216, 5, none⟩ = some (.string a0_5) := (blk_cell BK216.out 5).trans rfl
                                    have hcz134_6 : wr.cell? ⟨gb216, 6, none⟩ = some (.string a0_6) := (blk_cell BK216.out 6).trans rfl
                                    have hcz134_7 : wr.cell? ⟨gb216, 7, none⟩ = some (.string a0_7) := (blk_cell BK216.out 7).trans rfl
                                    have hcz134_8 : wr.cell? ⟨gb216, 8, none⟩ = some (.slice A0_8 l0_8.length c0_8) := (blk_cell BK216.out 8).trans rfl
                                    have hfz134_0 := blk_frozen BK216.out 0
                                    have hfz134_1 := blk_frozen BK216.out 1
                                    have hfz134_2 := blk_frozen BK216.out 2
                                    have hfz134_3 := blk_frozen BK216.out 3
                                    have hfz134_4 := blk_frozen BK216.out 4
                                    have hfz134_5 := blk_frozen BK216.out 5
                                    have hfz134_6 := blk_frozen BK216.out 6
                                    have hfz134_7 := blk_frozen BK216.out 7
                                    have hfz134_8 := blk_frozen BK216.out 8
                                    go_wp2_with (first | ((with_reducible refine gate_callee (f := 32) rfl ?_); refine goesL_ (some 117) rfl rfl Tryd.func32 (by kernel_rfl) rfl #[.string t217, .int .u8 116] rfl (by (try simp only [List.map_toArray, List.map_cons, List.map_nil]); first | done | rfl | (simp only [List.length_drop, List.length_take]; rfl)) ?_; (with_reducible refine (secateurref07_Has.calls t217 116 true _ A124.out).mono ?_); rintro e w' ⟨rfl, ⟨nd, rfl⟩⟩; refine ⟨_, rfl, ?_⟩) | (go_at_call 32; (with_reducible refine (secateurref07_Has.calls t217 114 true _ A130.out).mono ?_); rintro e w' ⟨rfl, ⟨nd, rfl⟩⟩))
                                    go_ret
                                    exact ⟨by first | rfl | (simp [errW_none, errW_some] <;> rfl) | (simp [*, errW_none, errW_some] <;> rfl), by repeat (first | (with_reducible first | exact HB.out | apply below_alloc | apply pw_below_drewN | apply below_drew1 | refine below_set ?_ GE216.out) | exact HB.out)⟩
                              · replace c131 := Bool.eq_false_iff.mpr c131
                                subst c131
                                have H1 : (some 0) = some r := by rw [if_neg (show ¬ (false = true) by decide)] at H; exact H
                                clear H
                                have H := H1
                                clear H1
                                as_aux_lemma =>
                                  obtain rfl := Option.some.inj H
                                  simp only [Option.some.injEq, Prod.mk.injEq] at H
                                  obtain ⟨rfl⟩ := H
                                  have hcz135_0 : wr.cell? ⟨gb216, 0, none⟩ = some (.int .i64 a0_0) := (blk_cell BK216.out 0).trans rfl
                                  have hcz135_1 : wr.cell? ⟨gb216, 1, none⟩ = some (.int .i64 a0_1) := (blk_cell BK216.out 1).trans rfl
                                  have hcz135_2 : wr.cell? ⟨gb216, 2, none⟩ = some (.int .i64 a0_2) := (blk_cell BK216.out 2).trans rfl
                                  have hcz135_3 : wr.cell? ⟨gb216, 3, none⟩ = some (.int .i64 a0_3) := (blk_cell BK216.out 3).trans rfl
                                  have hcz135_4 : wr.cell? ⟨gb216, 4, none⟩ = some (.int .i64 a0_4) := (blk_cell BK216.out 4).trans rfl
                                  have hcz135_5 : wr.cell? ⟨gb216, 5, none⟩ = some (.string a0_5) := (blk_cell BK216.out 5).trans rfl
                                  have hcz135_6 : wr.cell? ⟨gb216, 6, none⟩ = some (.string a0_6) := (blk_cell BK216.out 6).trans rfl
                                  have hcz135_7 : wr.cell? ⟨gb216, 7, none⟩ = some (.string a0_7) := (blk_cell BK216.out 7).trans rfl
                                  have hcz135_8 : wr.cell? ⟨gb216, 8, none⟩ = some (.slice A0_8 l0_8.length c0_8) := (blk_cell BK216.out 8).trans rfl
                                  have hfz135_0 := blk_frozen BK216.out 0
                                  have hfz135_1 := blk_frozen BK216.out 1
                                  have hfz135_2 := blk_frozen BK216.out 2
                                  have hfz135_3 := blk_frozen BK216.out 3
                                  have hfz135_4 := blk_frozen BK216.out 4
                                  have hfz135_5 := blk_frozen BK216.out 5
                                  have hfz135_6 := blk_frozen BK216.out 6
                                  have hfz135_7 := blk_frozen BK216.out 7
                                  have hfz135_8 := blk_frozen BK216.out 8
                                  go_wp2_with (first | ((with_reducible refine gate_callee (f := 32) rfl ?_); refine goesL_ (some 117) rfl rfl Tryd.func32 (by kernel_rfl) rfl #[.string t217, .int .u8 116] rfl (by (try simp only [List.map_toArray, List.map_cons, List.map_nil]); first | done | rfl | (simp only [List.length_drop, List.length_take]; rfl)) ?_; (with_reducible refine (secateurref07_Has.calls t217 116 true _ A124.out).mono ?_); rintro e w' ⟨rfl, ⟨nd, rfl⟩⟩; refine ⟨_, rfl, ?_⟩) | (go_at_call 32; (with_reducible refine (secateurref07_Has.calls t217 114 false _ A130.out).mono ?_); rintro e w' ⟨rfl, ⟨nd, rfl⟩⟩))
                                  go_ret
                                  exact ⟨by first | rfl | (simp [errW_none, errW_some] <;> rfl) | (simp [*, errW_none, errW_some] <;> rfl), by repeat (first | (with_reducible first | exact HB.out | apply below_alloc | apply pw_below_drewN | apply below_drew1 | refine below_set ?_ GE216.out) | exact HB.out)⟩
                        · replace c125 := Bool.eq_false_iff.mpr c125
                          subst c125
                          have H1 : ((secateurref07_Has.f t217 114).bind fun t246 => (if t246 = true then (if a0_4 < 0 then (some 12) else (if a0_4 > 9 then (some 12) else (some 0))) else (some 0))) = some r := by rw [if_neg (show ¬ (false = true) by decide)] at H; exact H
                          clear H
                          have H := H1
                          clear H1
                          replace H := Option.bind_eq_some_iff.mp H
                          obtain ⟨t246, A1360, H⟩ := H
                          replace H : (if t246 = true then (if a0_4 < 0 then (some 12) else (if a0_4 > 9 then (some 12) else (some 0))) else (some 0)) = some r := H
                          have A136 := Aside0.mk A1360
                          clear A1360
                          by_cases c137 : t246 = true
                          · subst c137
                            have H1 : (if a0_4 < 0 then (some 12) else (if a0_4 > 9 then (some 12) else (some 0))) = some r := by rw [if_pos rfl] at H; exact H
                            clear H
                            have H := H1
                            clear H1
                            by_cases c138 : a0_4 < 0
                            · rw [if_pos c138] at H
                              have c138b0 : decide (a0_4 < 0) = true := decide_eq_true c138
                              clear c138
                              as_aux_lemma =>
                                obtain rfl := Option.some.inj H
                                simp only [Option.some.injEq, Prod.mk.injEq] at H
                                obtain ⟨rfl⟩ := H
                                have hcz139_0 : wr.cell? ⟨gb216, 0, none⟩ = some (.int .i64 a0_0) := (blk_cell BK216.out 0).trans rfl
                                have hcz139_1 : wr.cell? ⟨gb216, 1, none⟩ = some (.int .i64 a0_1) := (blk_cell BK216.out 1).trans rfl
                                have hcz139_2 : wr.cell? ⟨gb216, 2, none⟩ = some (.int .i64 a0_2) := (blk_cell BK216.out 2).trans rfl
                                have hcz139_3 : wr.cell? ⟨gb216, 3, none⟩ = some (.int .i64 a0_3) := (blk_cell BK216.out 3).trans rfl
                                have hcz139_4 : wr.cell? ⟨gb216, 4, none⟩ = some (.int .i64 a0_4) := (blk_cell BK216.out 4).trans rfl
                                have hcz139_5 : wr.cell? ⟨gb216, 5, none⟩ = some (.string a0_5) := (blk_cell BK216.out 5).trans rfl
                                have hcz139_6 : wr.cell? ⟨gb216, 6, none⟩ = some (.string a0_6) := (blk_cell BK216.out 6).trans rfl
                                have hcz139_7 : wr.cell? ⟨gb216, 7, none⟩ = some (.string a0_7) := (blk_cell BK216.out 7).trans rfl
                                have hcz139_8 : wr.cell? ⟨gb216, 8, none⟩ = some (.slice A0_8 l0_8.length c0_8) := (blk_cell BK216.out 8).trans rfl
                                have hfz139_0 := blk_frozen BK216.out 0
                                have hfz139_1 := blk_frozen BK216.out 1
                                have hfz139_2 := blk_frozen BK216.out 2
                                have hfz139_3 := blk_frozen BK216.out 3
                                have hfz139_4 := blk_frozen BK216.out 4
                                have hfz139_5 := blk_frozen BK216.out 5
                                have hfz139_6 := blk_frozen BK216.out 6
                                have hfz139_7 := blk_frozen BK216.out 7
                                have hfz139_8 := blk_frozen BK216.out 8
                                go_wp2_with (first | ((with_reducible refine gate_callee (f := 32) rfl ?_); refine goesL_ (some 117) rfl rfl Tryd.func32 (by kernel_rfl) rfl #[.string t217, .int .u8 116] rfl (by (try simp only [List.map_toArray, List.map_cons, List.map_nil]); first | done | rfl | (simp only [List.length_drop, List.length_take]; rfl)) ?_; (with_reducible refine (secateurref07_Has.calls t217 116 false _ A124.out).mono ?_); rintro e w' ⟨rfl, ⟨nd, rfl⟩⟩; refine ⟨_, rfl, ?_⟩) | (go_at_call 32; (with_reducible refine (secateurref07_Has.calls t217 114 true _ A136.out).mono ?_); rintro e w' ⟨rfl, ⟨nd, rfl⟩⟩))
                                go_ret
                                exact ⟨by first | rfl | (simp [errW_none, errW_some] <;> rfl) | (simp [*, errW_none, errW_some] <;> rfl), by repeat (first | (with_reducible first | exact HB.out | apply below_alloc | apply pw_below_drewN | apply below_drew1 | refine below_set ?_ GE216.out) | exact HB.out)⟩
                            · rw [if_neg c138] at H
                              have c138b0 : decide (a0_4 < 0) = false := decide_eq_false c138
                              clear c138
                              by_cases c140 : a0_4 > 9
                              · rw [if_pos c140] at H
                                have c140b0 : decide (9 < a0_4) = true := decide_eq_true c140
                                clear c140
                                as_aux_lemma =>
                                  obtain rfl := Option.some.inj H
                                  simp only [Option.some.injEq, Prod.mk.injEq] at H
                                  obtain ⟨rfl⟩ := H
                                  have hcz141_0 : wr.cell? ⟨gb216, 0, none⟩ = some (.int .i64 a0_0) := (blk_cell BK216.out 0).trans rfl
                                  have hcz141_1 : wr.cell? ⟨gb216, 1, none⟩ = some (.int .i64 a0_1) := (blk_cell BK216.out 1).trans rfl
                                  have hcz141_2 : wr.cell? ⟨gb216, 2, none⟩ = some (.int .i64 a0_2) := (blk_cell BK216.out 2).trans rfl
                                  have hcz141_3 : wr.cell? ⟨gb216, 3, none⟩ = some (.int .i64 a0_3) := (blk_cell BK216.out 3).trans rfl
                                  have hcz141_4 : wr.cell? ⟨gb216, 4, none⟩ = some (.int .i64 a0_4) := (blk_cell BK216.out 4).trans rfl
                                  have hcz141_5 : wr.cell? ⟨gb216, 5, none⟩ = some (.string a0_5) := (blk_cell BK216.out 5).trans rfl
                                  have hcz141_6 : wr.cell? ⟨gb216, 6, none⟩ = some (.string a0_6) := (blk_cell BK216.out 6).trans rfl
                                  have hcz141_7 : wr.cell? ⟨gb216, 7, none⟩ = some (.string a0_7) := (blk_cell BK216.out 7).trans rfl
                                  have hcz141_8 : wr.cell? ⟨gb216, 8, none⟩ = some (.slice A0_8 l0_8.length c0_8) := (blk_cell BK216.out 8).trans rfl
                                  have hfz141_0 := blk_frozen BK216.out 0
                                  have hfz141_1 := blk_frozen BK216.out 1
                                  have hfz141_2 := blk_frozen BK216.out 2
                                  have hfz141_3 := blk_frozen BK216.out 3
                                  have hfz141_4 := blk_frozen BK216.out 4
                                  have hfz141_5 := blk_frozen BK216.out 5
                                  have hfz141_6 := blk_frozen BK216.out 6
                                  have hfz141_7 := blk_frozen BK216.out 7
                                  have hfz141_8 := blk_frozen BK216.out 8
                                  go_wp2_with (first | ((with_reducible refine gate_callee (f := 32) rfl ?_); refine goesL_ (some 117) rfl rfl Tryd.func32 (by kernel_rfl) rfl #[.string t217, .int .u8 116] rfl (by (try simp only [List.map_toArray, List.map_cons, List.map_nil]); first | done | rfl | (simp only [List.length_drop, List.length_take]; rfl)) ?_; (with_reducible refine (secateurref07_Has.calls t217 116 false _ A124.out).mono ?_); rintro e w' ⟨rfl, ⟨nd, rfl⟩⟩; refine ⟨_, rfl, ?_⟩) | (go_at_call 32; (with_reducible refine (secateurref07_Has.calls t217 114 true _ A136.out).mono ?_); rintro e w' ⟨rfl, ⟨nd, rfl⟩⟩))
                                  go_ret
                                  exact ⟨by first | rfl | (simp [errW_none, errW_some] <;> rfl) | (simp [*, errW_none, errW_some] <;> rfl), by repeat (first | (with_reducible first | exact HB.out | apply below_alloc | apply pw_below_drewN | apply below_drew1 | refine below_set ?_ GE216.out) | exact HB.out)⟩
                              · rw [if_neg c140] at H
                                have c140b0 : decide (9 < a0_4) = false := decide_eq_false c140
                                clear c140
                                as_aux_lemma =>
                                  obtain rfl := Option.some.inj H
                                  simp only [Option.some.injEq, Prod.mk.injEq] at H
                                  obtain ⟨rfl⟩ := H
                                  have hcz142_0 : wr.cell? ⟨gb216, 0, none⟩ = some (.int .i64 a0_0) := (blk_cell BK216.out 0).trans rfl
                                  have hcz142_1 : wr.cell? ⟨gb216, 1, none⟩ = some (.int .i64 a0_1) := (blk_cell BK216.out 1).trans rfl
                                  have hcz142_2 : wr.cell? ⟨gb216, 2, none⟩ = some (.int .i64 a0_2) := (blk_cell BK216.out 2).trans rfl
                                  have hcz142_3 : wr.cell? ⟨gb216, 3, none⟩ = some (.int .i64 a0_3) := (blk_cell BK216.out 3).trans rfl
                                  have hcz142_4 : wr.cell? ⟨gb216, 4, none⟩ = some (.int .i64 a0_4) := (blk_cell BK216.out 4).trans rfl
                                  have hcz142_5 : wr.cell? ⟨gb216, 5, none⟩ = some (.string a0_5) := (blk_cell BK216.out 5).trans rfl
                                  have hcz142_6 : wr.cell? ⟨gb216, 6, none⟩ = some (.string a0_6) := (blk_cell BK216.out 6).trans rfl
                                  have hcz142_7 : wr.cell? ⟨gb216, 7, none⟩ = some (.string a0_7) := (blk_cell BK216.out 7).trans rfl
                                  have hcz142_8 : wr.cell? ⟨gb216, 8, none⟩ = some (.slice A0_8 l0_8.length c0_8) := (blk_cell BK216.out 8).trans rfl
                                  have hfz142_0 := blk_frozen BK216.out 0
                                  have hfz142_1 := blk_frozen BK216.out 1
                                  have hfz142_2 := blk_frozen BK216.out 2
                                  have hfz142_3 := blk_frozen BK216.out 3
                                  have hfz142_4 := blk_frozen BK216.out 4
                                  have hfz142_5 := blk_frozen BK216.out 5
                                  have hfz142_6 := blk_frozen BK216.out 6
                                  have hfz142_7 := blk_frozen BK216.out 7
                                  have hfz142_8 := blk_frozen BK216.out 8
                                  go_wp2_with (first | ((with_reducible refine gate_callee (f := 32) rfl ?_); refine goesL_ (some 117) rfl rfl Tryd.func32 (by kernel_rfl) rfl #[.string t217, .int .u8 116] rfl (by (try simp only [List.map_toArray, List.map_cons, List.map_nil]); first | done | rfl | (simp only [List.length_drop, List.length_take]; rfl)) ?_; (with_reducible refine (secateurref07_Has.calls t217 116 false _ A124.out).mono ?_); rintro e w' ⟨rfl, ⟨nd, rfl⟩⟩; refine ⟨_, rfl, ?_⟩) | (go_at_call 32; (with_reducible refine (secateurref07_Has.calls t217 114 true _ A136.out).mono ?_); rintro e w' ⟨rfl, ⟨nd, rfl⟩⟩))
                                  go_ret
                                  exact ⟨by first | rfl | (simp [errW_none, errW_some] <;> rfl) | (simp [*, errW_none, errW_some] <;> rfl), by repeat (first | (with_reducible first | exact HB.out | apply below_alloc | apply pw_below_drewN | apply below_drew1 | refine below_set ?_ GE216.out) | exact HB.out)⟩
                          · replace c137 := Bool.eq_false_iff.mpr c137
                            subst c137
                            have H1 : (some 0) = some r := by rw [if_neg (show ¬ (false = true) by decide)] at H; exact H
                            clear H
                            have H := H1
                            clear H1
                            as_aux_lemma =>
                              obtain rfl := Option.some.inj H
                              simp only [Option.some.injEq, Prod.mk.injEq] at H
                              obtain ⟨rfl⟩ := H
                              have hcz143_0 : wr.cell? ⟨gb216, 0, none⟩ = some (.int .i64 a0_0) := (blk_cell BK216.out 0).trans rfl
                              have hcz143_1 : wr.cell? ⟨gb216, 1, none⟩ = some (.int .i64 a0_1) := (blk_cell BK216.out 1).trans rfl
                              have hcz143_2 : wr.cell? ⟨gb216, 2, none⟩ = some (.int .i64 a0_2) := (blk_cell BK216.out 2).trans rfl
                              have hcz143_3 : wr.cell? ⟨gb216, 3, none⟩ = some (.int .i64 a0_3) := (blk_cell BK216.out 3).trans rfl
                              have hcz143_4 : wr.cell? ⟨gb216, 4, none⟩ = some (.int .i64 a0_4) := (blk_cell BK216.out 4).trans rfl
                              have hcz143_5 : wr.cell? ⟨gb216, 5, none⟩ = some (.string a0_5) := (blk_cell BK216.out 5).trans rfl
                              have hcz143_6 : wr.cell? ⟨gb216, 6, none⟩ = some (.string a0_6) := (blk_cell BK216.out 6).trans rfl
                              have hcz143_7 : wr.cell? ⟨gb216, 7, none⟩ = some (.string a0_7) := (blk_cell BK216.out 7).trans rfl
                              have hcz143_8 : wr.cell? ⟨gb216, 8, none⟩ = some (.slice A0_8 l0_8.length c0_8) := (blk_cell BK216.out 8).trans rfl
                              have hfz143_0 := blk_frozen BK216.out 0
                              have hfz143_1 := blk_frozen BK216.out 1
                              have hfz143_2 := blk_frozen BK216.out 2
                              have hfz143_3 := blk_frozen BK216.out 3
                              have hfz143_4 := blk_frozen BK216.out 4
                              have hfz143_5 := blk_frozen BK216.out 5
                              have hfz143_6 := blk_frozen BK216.out 6
                              have hfz143_7 := blk_frozen BK216.out 7
                              have hfz143_8 := blk_frozen BK216.out 8
                              go_wp2_with (first | ((with_reducible refine gate_callee (f := 32) rfl ?_); refine goesL_ (some 117) rfl rfl Tryd.func32 (by kernel_rfl) rfl #[.string t217, .int .u8 116] rfl (by (try simp only [List.map_toArray, List.map_cons, List.map_nil]); first | done | rfl | (simp only [List.length_drop, List.length_take]; rfl)) ?_; (with_reducible refine (secateurref07_Has.calls t217 116 false _ A124.out).mono ?_); rintro e w' ⟨rfl, ⟨nd, rfl⟩⟩; refine ⟨_, rfl, ?_⟩) | (go_at_call 32; (with_reducible refine (secateurref07_Has.calls t217 114 false _ A136.out).mono ?_); rintro e w' ⟨rfl, ⟨nd, rfl⟩⟩))
                              go_ret
                              exact ⟨by first | rfl | (simp [errW_none, errW_some] <;> rfl) | (simp [*, errW_none, errW_some] <;> rfl), by repeat (first | (with_reducible first | exact HB.out | apply below_alloc | apply pw_below_drewN | apply below_drew1 | refine below_set ?_ GE216.out) | exact HB.out)⟩

end Go.Proofs.YtmamaijiphdggaaDoor.POp
