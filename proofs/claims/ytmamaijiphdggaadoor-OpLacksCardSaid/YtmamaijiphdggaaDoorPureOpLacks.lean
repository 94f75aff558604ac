/- The plain law of OpLacks. -/
import Derived.Test.YtmamaijiphdggaaDoorTold
import Derived.Test.YtmamaijiphdggaaDoorPOpx15
namespace Go.Proofs.YtmamaijiphdggaaDoor.Pure
open Go.RowKit Go.Proofs.YtmamaijiphdggaaDoor.POp Go.Proofs.YtmamaijiphdggaaDoor.Given Go.Proofs.YtmamaijiphdggaaDoor.Math Go.Proofs.YtmamaijiphdggaaDoorW.PrintWords Go.Proofs.YtmamaijiphdggaaDoorW.PrintLast Go.Proofs.YtmamaijiphdggaaDoorW.PrintMore
set_option linter.unusedVariables false
set_option linter.unusedSimpArgs false

/-- What is not empty beside what the shape lacks does not fit. -/
theorem lacks (o a b c k : Int) (cl nm ds : ByteArray) (l : List Int) (h : rightB o = true) (hs : spareB o a b c k cl nm ds l.length = false) : fitsB o a b c k cl nm ds l 32 256 = 1 := by
  unfold fitsB fitsQ
  rw [h, hs]
  rfl
theorem spare_eq (o a b c k : Int) (cl nm ds : ByteArray) (len : Nat) : spareB o a b c k cl nm ds len = emptyC (shapeB o) a b c k cl nm ds len := (empty_spare ..).symm
theorem OpLacks (o a b c k : Int) (cl nm ds : ByteArray) (l : List Int) (x : Int) (hx : 0 ≤ x ∧ x ≤ 255) : ∃ n, secateurlaw07_OpLacks.f n o a b c k cl nm ds l x = some true := by
  have L := Letters.of o
  have hz := L.size
  have wx : wrap64 x = x := by unfold wrap64; omega
  have tx : 0 ≤ Int.tmod x 7 ∧ Int.tmod x 7 < 7 := by
    rw [Int.tmod_eq_emod_of_nonneg hx.1]
    omega
  have jt : Ev (fun n => secateurlaw07_OpLacks.j0 n x true o a b c k cl nm ds l) true :=
    Ev.step (f := fun n => (secateurlaw07_live.f n).bind fun t293 => (some t293)) (fun n => by simp [secateurlaw07_OpLacks.j0]) (Ev.bind live_ev (Ev.now _))
  have j1t : ∀ y, Ev (fun n => secateurlaw07_OpLacks.j1 n y true o a b c k cl nm ds l) true := fun y =>
    Ev.step (f := fun n => (secateurlaw07_live.f n).bind fun t293 => (some t293)) (fun n => by simp [secateurlaw07_OpLacks.j1]) (Ev.bind live_ev (Ev.now _))
  have lv : ∀ r : Option Int, r = some 1 → Ev (fun n => (secateurlaw07_live.f n).bind fun t346 => (if t346 = true then (r.bind fun t347 => (some (t347 == 1))) else (some false))) true := fun r hr => by
    rw [hr]
    exact Ev.bind live_ev (Ev.congr (fun n => if_pos rfl) (Ev.now _))
  have jf : Short cl nm ds l → Fitted o a b c k cl nm ds l 32 256 → Ev (fun n => secateurlaw07_OpLacks.j0 n x false o a b c k cl nm ds l) true := fun S F => by
    have hR := F.right
    have ha : hasC (shapeB o) 97 = false → op_Fits.f o 1 b c k cl nm ds l 32 256 = some 1 := fun h => by
      rw [opFits_ref _ _ _ _ _ _ _ _ _ _ _ S.cl S.nm S.ds S.l, lacks _ _ _ _ _ _ _ _ _ hR (by rw [spare_eq]; unfold emptyC emptyQ; rw [h]; rfl)]
    have hb : hasC (shapeB o) 98 = false → op_Fits.f o a 1 c k cl nm ds l 32 256 = some 1 := fun h => by
      rw [opFits_ref _ _ _ _ _ _ _ _ _ _ _ S.cl S.nm S.ds S.l, lacks _ _ _ _ _ _ _ _ _ hR (by rw [spare_eq]; unfold emptyC emptyQ; rw [h]; simp)]
    have hc : hasC (shapeB o) 99 = false → op_Fits.f o a b 1 k cl nm ds l 32 256 = some 1 := fun h => by
      rw [opFits_ref _ _ _ _ _ _ _ _ _ _ _ S.cl S.nm S.ds S.l, lacks _ _ _ _ _ _ _ _ _ hR (by rw [spare_eq]; unfold emptyC emptyQ; rw [h]; simp)]
    have hC : hasC (shapeB o) 67 = false → hasC (shapeB o) 70 = false → hasC (shapeB o) 77 = false → op_Fits.f o a b c k ⟨#[65]⟩ nm ds l 32 256 = some 1 := fun h1 h2 h3 => by
      rw [opFits_ref _ _ _ _ _ _ _ _ _ _ _ (by decide) S.nm S.ds S.l, lacks _ _ _ _ _ _ _ _ _ hR (by rw [spare_eq]; unfold emptyC emptyQ; rw [h1, h2, h3, isEmpty_size, isEmpty_size, isEmpty_size, show ((⟨#[65]⟩ : ByteArray).size == 0) = false from rfl]; simp)]
    have hF : hasC (shapeB o) 70 = false → hasC (shapeB o) 77 = false → op_Fits.f o a b c k cl ⟨#[102]⟩ ds l 32 256 = some 1 := fun h2 h3 => by
      rw [opFits_ref _ _ _ _ _ _ _ _ _ _ _ S.cl (by decide) S.ds S.l, lacks _ _ _ _ _ _ _ _ _ hR (by rw [spare_eq]; unfold emptyC emptyQ; rw [h2, h3, isEmpty_size, isEmpty_size, isEmpty_size, show ((⟨#[102]⟩ : ByteArray).size == 0) = false from rfl]; simp)]
    have hM : hasC (shapeB o) 77 = false → op_Fits.f o a b c k cl nm ⟨#[40, 41, 86]⟩ l 32 256 = some 1 := fun h3 => by
      rw [opFits_ref _ _ _ _ _ _ _ _ _ _ _ S.cl S.nm (by decide) S.l, lacks _ _ _ _ _ _ _ _ _ hR (by rw [spare_eq]; unfold emptyC emptyQ; rw [h3, isEmpty_size, isEmpty_size, isEmpty_size, show ((⟨#[40, 41, 86]⟩ : ByteArray).size == 0) = false from rfl]; simp)]
    have hv : hasC (shapeB o) 118 = false → op_Fits.f o a b c k cl nm ds [1] 32 256 = some 1 := fun h3 => by
      rw [opFits_ref _ _ _ _ _ _ _ _ _ _ _ S.cl S.nm S.ds (by decide), lacks _ _ _ _ _ _ _ _ _ hR (by rw [spare_eq]; unfold emptyC emptyQ; rw [h3]; simp)]
    -- one letter at a time
    have tell : ∀ y : Int, bt (⟨#[97, 98, 99, 67, 70, 77, 118]⟩ : ByteArray) (Int.tmod x 7) = y →
        (y = 97 ∨ y = 98 ∨ y = 99 ∨ y = 67 ∨ y = 70 ∨ y = 77 ∨ y = 118) → Ev (fun n => secateurlaw07_OpLacks.j0 n x false o a b c k cl nm ds l) true := fun y hy hor => by
      have j1f : hasC (shapeB o) y = false → (y = 67 → hasC (shapeB o) 70 = false ∧ hasC (shapeB o) 77 = false) → (y = 70 → hasC (shapeB o) 77 = false) → Ev (fun n => secateurlaw07_OpLacks.j1 n y false o a b c k cl nm ds l) true := fun hq h67 h70 => by
        rcases hor with e | e | e | e | e | e | e
        · subst e
          exact Ev.step (f := fun n => (secateurlaw07_live.f n).bind fun t346 => (if t346 = true then ((op_Fits.f o 1 b c k cl nm ds l 32 256).bind fun t347 => (some (t347 == 1))) else (some false))) (fun n => by simp [secateurlaw07_OpLacks.j1]) (lv _ (ha hq))
        · subst e
          exact Ev.step (f := fun n => (secateurlaw07_live.f n).bind fun t346 => (if t346 = true then ((op_Fits.f o a 1 c k cl nm ds l 32 256).bind fun t347 => (some (t347 == 1))) else (some false))) (fun n => by simp [secateurlaw07_OpLacks.j1]) (lv _ (hb hq))
        · subst e
          exact Ev.step (f := fun n => (secateurlaw07_live.f n).bind fun t346 => (if t346 = true then ((op_Fits.f o a b 1 k cl nm ds l 32 256).bind fun t347 => (some (t347 == 1))) else (some false))) (fun n => by simp [secateurlaw07_OpLacks.j1]) (lv _ (hc hq))
        · subst e
          exact Ev.step (f := fun n => (secateurlaw07_live.f n).bind fun t346 => (if t346 = true then ((op_Fits.f o a b c k ⟨#[65]⟩ nm ds l 32 256).bind fun t347 => (some (t347 == 1))) else (some false))) (fun n => by simp [secateurlaw07_OpLacks.j1]) (lv _ (hC hq (h67 rfl).1 (h67 rfl).2))
        · subst e
          exact Ev.step (f := fun n => (secateurlaw07_live.f n).bind fun t346 => (if t346 = true then ((op_Fits.f o a b c k cl ⟨#[102]⟩ ds l 32 256).bind fun t347 => (some (t347 == 1))) else (some false))) (fun n => by simp [secateurlaw07_OpLacks.j1]) (lv _ (hF hq (h70 rfl)))
        · subst e
          exact Ev.step (f := fun n => (secateurlaw07_live.f n).bind fun t346 => (if t346 = true then ((op_Fits.f o a b c k cl nm ⟨#[40, 41, 86]⟩ l 32 256).bind fun t347 => (some (t347 == 1))) else (some false))) (fun n => by simp [secateurlaw07_OpLacks.j1]) (lv _ (hM hq))
        · subst e
          exact Ev.step (f := fun n => (secateurlaw07_live.f n).bind fun t346 => (if t346 = true then ((op_Fits.f o a b c k cl nm ds [1] 32 256).bind fun t347 => (some (t347 == 1))) else (some false))) (fun n => by simp [secateurlaw07_OpLacks.j1]) (lv _ (hv hq))
      have st : ∀ n, secateurlaw07_OpLacks.j0 (n + 1) x false o a b c k cl nm ds l = (if hasC (shapeB o) y = true then (secateurlaw07_OpLacks.j1 n y true o a b c k cl nm ds l) else (if y = 67 then (if hasC (shapeB o) 70 = true then (secateurlaw07_OpLacks.j1 n y true o a b c k cl nm ds l) else (if hasC (shapeB o) 77 = true then (secateurlaw07_OpLacks.j1 n y true o a b c k cl nm ds l) else (if y = 70 then (secateurlaw07_OpLacks.j1 n y (hasC (shapeB o) 77) o a b c k cl nm ds l) else (secateurlaw07_OpLacks.j1 n y false o a b c k cl nm ds l)))) else (if y = 70 then (secateurlaw07_OpLacks.j1 n y (hasC (shapeB o) 77) o a b c k cl nm ds l) else (secateurlaw07_OpLacks.j1 n y false o a b c k cl nm ds l)))) := fun n => by
        simp only [secateurlaw07_OpLacks.j0, wx]
        rw [if_neg (by simp), if_pos tx.1, if_pos tx.2]
        unfold op_Shape.f
        simp only [Option.bind_some, hy, has_ref _ hz]
      refine Ev.step st ?_
      cases hq : hasC (shapeB o) y with
      | true => exact Ev.congr (fun n => if_pos rfl) (j1t y)
      | false =>
        refine Ev.congr (fun n => if_neg (by simp)) ?_
        by_cases h67 : y = 67
        · refine Ev.congr (fun n => if_pos h67) ?_
          cases h7 : hasC (shapeB o) 70 with
          | true => exact Ev.congr (fun n => if_pos rfl) (j1t y)
          | false =>
            refine Ev.congr (fun n => if_neg (by simp)) ?_
            cases h8 : hasC (shapeB o) 77 with
            | true => exact Ev.congr (fun n => if_pos rfl) (j1t y)
            | false =>
              refine Ev.congr (fun n => (if_neg (by simp)).trans (if_neg (by omega))) ?_
              exact j1f hq (fun _ => ⟨h7, h8⟩) (fun h => by omega)
        · refine Ev.congr (fun n => if_neg h67) ?_
          by_cases h70 : y = 70
          · refine Ev.congr (fun n => if_pos h70) ?_
            cases h8 : hasC (shapeB o) 77 with
            | true => exact j1t y
            | false => exact j1f hq (fun h => absurd h h67) (fun _ => h8)
          · refine Ev.congr (fun n => if_neg h70) ?_
            exact j1f hq (fun h => absurd h h67) (fun h => absurd h h70)
    refine tell _ rfl ?_
    have h7 : ∀ j : Fin 7, (bt (⟨#[97, 98, 99, 67, 70, 77, 118]⟩ : ByteArray) (j.val : Int) = 97 ∨ bt (⟨#[97, 98, 99, 67, 70, 77, 118]⟩ : ByteArray) (j.val : Int) = 98 ∨ bt (⟨#[97, 98, 99, 67, 70, 77, 118]⟩ : ByteArray) (j.val : Int) = 99 ∨ bt (⟨#[97, 98, 99, 67, 70, 77, 118]⟩ : ByteArray) (j.val : Int) = 67 ∨ bt (⟨#[97, 98, 99, 67, 70, 77, 118]⟩ : ByteArray) (j.val : Int) = 70 ∨ bt (⟨#[97, 98, 99, 67, 70, 77, 118]⟩ : ByteArray) (j.val : Int) = 77 ∨ bt (⟨#[97, 98, 99, 67, 70, 77, 118]⟩ : ByteArray) (j.val : Int) = 118) := by decide +kernel
    have := h7 ⟨(Int.tmod x 7).toNat, by omega⟩
    simpa only [Int.toNat_of_nonneg tx.1] using this
  have key : Ev (fun n => secateurlaw07_OpLacks.g n o a b c k cl nm ds l x) true := by
    refine Ev.congr (f := fun n => (secateurlaw07_long.f o a b c k cl nm ds l).bind fun t336 => (if t336 = true then (secateurlaw07_OpLacks.j0 n x true o a b c k cl nm ds l) else ((op_Fits.f o a b c k cl nm ds l 32 256).bind fun t337 => (secateurlaw07_OpLacks.j0 n x (t337 != 0) o a b c k cl nm ds l)))) (fun n => rfl) ?_
    rcases long_ref o a b c k cl nm ds l with h | ⟨h, S⟩
    · rw [h]
      exact jt
    · rw [h, opFits_ref _ _ _ _ _ _ _ _ _ _ _ S.cl S.nm S.ds S.l]
      by_cases hf : fitsB o a b c k cl nm ds l 32 256 = 0
      · rw [hf]
        exact jf S ((fits_iff ..).1 hf)
      · refine Ev.congr (f := fun n => secateurlaw07_OpLacks.j0 n x true o a b c k cl nm ds l) (fun n => ?_) jt
        show secateurlaw07_OpLacks.j0 n x (fitsB o a b c k cl nm ds l 32 256 != 0) o a b c k cl nm ds l = _
        rw [bne_iff_ne.mpr hf]
  obtain ⟨n, hn⟩ := key.rounds
  exact ⟨n, by unfold secateurlaw07_OpLacks.f; rw [hn]; rfl⟩
end Go.Proofs.YtmamaijiphdggaaDoor.Pure
