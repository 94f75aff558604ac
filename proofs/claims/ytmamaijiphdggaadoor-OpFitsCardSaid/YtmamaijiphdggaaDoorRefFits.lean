/- Plain facts: the printed reference function Fits answers as fitsB does. -/
import Derived.Test.YtmamaijiphdggaaDoorPOpx9
import Derived.Test.YtmamaijiphdggaaDoorRefSplit
namespace Go.Proofs.YtmamaijiphdggaaDoor.Math
open Go.RowKit Go.Proofs.YtmamaijiphdggaaDoor.POp Go.Proofs.YtmamaijiphdggaaDoor.Given Go.Proofs.YtmamaijiphdggaaDoorW.PrintWords Go.Proofs.YtmamaijiphdggaaDoorW.PrintLast Go.Proofs.YtmamaijiphdggaaDoorW.PrintMore
set_option linter.unusedVariables false
set_option linter.unusedSimpArgs false

theorem within_ref (n m : Int) : secateurref07_within.f n m = some (okR m n) := by
  unfold secateurref07_within.f okR
  split
  · rename_i h; rw [decide_eq_true h, Bool.true_and]
  · rename_i h; rw [decide_eq_false (by omega), Bool.false_and]

/-! ### the names -/
theorem named_ref (o a b c k : Int) (cl nm ds : ByteArray) (l : List Int) (hcl : cl.size ≤ 300) (hnm : nm.size ≤ 300) :
    Ev (fun n => secateurref07_named.f n o a b c k cl nm ds l (shapeB o)) (namedB o cl nm ds) := by
  have L := Letters.of o
  have hC := Class_ref cl (by omega)
  have hN := Name_ref nm (by omega)
  have hS := Split_ref ds
  have h67 := has_ref (shapeB o) L.size 67
  have h70 := has_ref (shapeB o) L.size 70
  have h77 := has_ref (shapeB o) L.size 77
  have e : namedB o cl nm ds = ((!(hasC (shapeB o) 67 || (hasC (shapeB o) 70 || hasC (shapeB o) 77)) || ofB classB cl) && ((!(hasC (shapeB o) 70 || hasC (shapeB o) 77) || nameB nm) && (!(hasC (shapeB o) 77) || (splitB ds).2.2.2 == 0))) := by
    unfold namedB
    rw [L.M, L.C, L.F, Bool.and_comm, Bool.and_assoc]
  rw [e]
  generalize hasC (shapeB o) 67 = q67 at *
  generalize hasC (shapeB o) 70 = q70 at *
  generalize hasC (shapeB o) 77 = q77 at *
  generalize ofB classB cl = c1 at *
  generalize nameB nm = n1 at *
  have j1f : Ev (fun n => secateurref07_named.j1 n (shapeB o) false o a b c k cl nm ds l) (!q77 || (splitB ds).2.2.2 == 0) := by
    refine Ev.step (f := fun n => (secateurref06_Split.f n ds).bind fun bt208 => ((secateurref07_Has.f (shapeB o) 77).bind fun t215 => (if t215 = true then (some (bt208.2.2.2 == 0)) else (some true)))) (fun n => by
      simp only [secateurref07_named.j1]
      rw [if_neg (by simp)]) (Ev.bind hS ?_)
    rw [h77]
    cases q77 with
    | true => exact Ev.now _
    | false => exact Ev.now _
  have j1t : Ev (fun n => secateurref07_named.j1 n (shapeB o) true o a b c k cl nm ds l) false :=
    Ev.step (f := fun _ => some false) (fun n => by simp only [secateurref07_named.j1]; rfl) (Ev.now _)
  have j1b : ∀ x, Ev (fun n => secateurref07_named.j1 n (shapeB o) (!x) o a b c k cl nm ds l) (x && (!q77 || (splitB ds).2.2.2 == 0)) := fun x => by
    cases x with
    | true => exact j1f
    | false => exact j1t
  have j0f : Ev (fun n => secateurref07_named.j0 n (shapeB o) false o a b c k cl nm ds l) ((!(q70 || q77) || n1) && (!q77 || (splitB ds).2.2.2 == 0)) := by
    refine Ev.step (f := fun n => (secateurref07_Has.f (shapeB o) 70).bind fun t204 => (if t204 = true then ((secateurref04_Name.f n nm).bind fun t205 => (secateurref07_named.j1 n (shapeB o) (!t205) o a b c k cl nm ds l)) else ((secateurref07_Has.f (shapeB o) 77).bind fun t206 => (if t206 = true then ((secateurref04_Name.f n nm).bind fun t207 => (secateurref07_named.j1 n (shapeB o) (!t207) o a b c k cl nm ds l)) else (secateurref07_named.j1 n (shapeB o) false o a b c k cl nm ds l))))) (fun n => by
      simp only [secateurref07_named.j0]
      rw [if_neg (by simp)]) ?_
    rw [h70, h77]
    cases q70 with
    | true => exact Ev.congr (f := fun n => (secateurref04_Name.f n nm).bind fun t => secateurref07_named.j1 n (shapeB o) (!t) o a b c k cl nm ds l) (fun n => rfl) (Ev.bind hN (j1b n1))
    | false =>
      cases q77 with
      | true => exact Ev.congr (f := fun n => (secateurref04_Name.f n nm).bind fun t => secateurref07_named.j1 n (shapeB o) (!t) o a b c k cl nm ds l) (fun n => rfl) (Ev.bind hN (j1b n1))
      | false => exact j1f
  have j0t : Ev (fun n => secateurref07_named.j0 n (shapeB o) true o a b c k cl nm ds l) false :=
    Ev.step (f := fun _ => some false) (fun n => by simp only [secateurref07_named.j0]; rfl) (Ev.now _)
  have j0b : ∀ x, Ev (fun n => secateurref07_named.j0 n (shapeB o) (!x) o a b c k cl nm ds l) (x && ((!(q70 || q77) || n1) && (!q77 || (splitB ds).2.2.2 == 0))) := fun x => by
    cases x with
    | true => exact j0f
    | false => exact j0t
  refine Ev.congr (f := fun n => (secateurref07_Has.f (shapeB o) 67).bind fun t198 => (if t198 = true then ((secateurref04_Class.f n cl).bind fun t199 => (secateurref07_named.j0 n (shapeB o) (!t199) o a b c k cl nm ds l)) else ((secateurref07_Has.f (shapeB o) 70).bind fun t200 => (if t200 = true then ((secateurref04_Class.f n cl).bind fun t201 => (secateurref07_named.j0 n (shapeB o) (!t201) o a b c k cl nm ds l)) else ((secateurref07_Has.f (shapeB o) 77).bind fun t202 => (if t202 = true then ((secateurref04_Class.f n cl).bind fun t203 => (secateurref07_named.j0 n (shapeB o) (!t203) o a b c k cl nm ds l)) else (secateurref07_named.j0 n (shapeB o) false o a b c k cl nm ds l))))))) (fun n => rfl) ?_
  rw [h67, h70, h77]
  cases q67 with
  | true => exact Ev.congr (f := fun n => (secateurref04_Class.f n cl).bind fun t => secateurref07_named.j0 n (shapeB o) (!t) o a b c k cl nm ds l) (fun n => rfl) (Ev.bind hC (j0b c1))
  | false =>
    cases q70 with
    | true => exact Ev.congr (f := fun n => (secateurref04_Class.f n cl).bind fun t => secateurref07_named.j0 n (shapeB o) (!t) o a b c k cl nm ds l) (fun n => rfl) (Ev.bind hC (j0b c1))
    | false =>
      cases q77 with
      | true => exact Ev.congr (f := fun n => (secateurref04_Class.f n cl).bind fun t => secateurref07_named.j0 n (shapeB o) (!t) o a b c k cl nm ds l) (fun n => rfl) (Ev.bind hC (j0b c1))
      | false => exact j0f

/-! ### Fits -/
section
variable (o a b c k : Int) (cl nm ds : ByteArray) (l : List Int) (regs code : Int) (s : ByteArray) (hs : s.size ≤ 4) (hl : l.length ≤ 60)
include hs hl
theorem fits_l0 : ∀ d i, l.length - i = d → i ≤ l.length →
    Ev (fun n => secateurref07_Fits.l0 n regs code s (i : Int) o a b c k cl nm ds l) (if (l.drop i).all (okR regs) = true then (if lateQ (hasC s 116) (hasC s 114) k code = true then 12 else 0) else 12)
  | 0, i, hd, hi => by
    have e : l.drop i = [] := List.drop_of_length_le (by omega)
    rw [e]
    refine Ev.step (f := fun _ => some (if lateQ (hasC s 116) (hasC s 114) k code = true then 12 else 0)) (fun n => ?_) (Ev.now _)
    simp only [secateurref07_Fits.l0]
    rw [if_neg (by omega), has_ref s hs, has_ref s hs]
    unfold lateQ
    cases hasC s 116 <;> cases hasC s 114 <;> by_cases h1 : k < 0 <;> by_cases h2 : k ≥ code <;> by_cases h3 : k > 9 <;> simp [h1, h2, h3]
  | d + 1, i, hd, hi => by
    have hlt : i < l.length := by omega
    have ih := fits_l0 d (i + 1) (by omega) (by omega)
    have er : rd l (i : Int) = l[i] := by
      unfold rd
      simp [List.getD, List.getElem?_eq_getElem hlt]
    have ed : l.drop i = l[i] :: l.drop (i + 1) := List.drop_eq_getElem_cons hlt
    rw [ed, List.all_cons]
    have hw := wrap_succ i (by omega)
    refine Ev.step (f := fun n => if okR regs l[i] = true then secateurref07_Fits.l0 n regs code s ((i + 1 : Nat) : Int) o a b c k cl nm ds l else some 12) (fun n => by
      simp only [secateurref07_Fits.l0]
      rw [if_pos (by omega), if_pos (by omega), within_ref, er, hw]
      rfl) ?_
    cases okR regs l[i] with
    | true => exact Ev.congr (fun n => if_pos rfl) (by simpa using ih)
    | false => exact Ev.congr (fun n => if_neg (by simp)) (by simpa using Ev.now (12 : Int))
def badQ (qa qb qc void : Bool) (a b c regs : Int) : Bool := (qa && !(okR regs a)) || ((qb && !(okR regs b)) || ((qc && !(okR regs c)) || (void && !(a == 0))))
theorem fits_j1 (void : Bool) : Ev (fun n => secateurref07_Fits.j1 n regs code s void o a b c k cl nm ds l)
    (if badQ (hasC s 97) (hasC s 98) (hasC s 99) void a b c regs = true then 12 else if l.all (okR regs) = true then (if lateQ (hasC s 116) (hasC s 114) k code = true then 12 else 0) else 12) := by
  have hl0 := fits_l0 o a b c k cl nm ds l regs code s hs hl _ 0 rfl (Nat.zero_le _)
  rw [List.drop_zero] at hl0
  have j2 : ∀ x, Ev (fun n => secateurref07_Fits.j2 n regs code s x o a b c k cl nm ds l) (if x = true then 12 else if l.all (okR regs) = true then (if lateQ (hasC s 116) (hasC s 114) k code = true then 12 else 0) else 12) := fun x => by
    cases x with
    | true => exact Ev.step (f := fun _ => some 12) (fun n => by simp only [secateurref07_Fits.j2]; rfl) (Ev.now _)
    | false => exact Ev.step (f := fun n => secateurref07_Fits.l0 n regs code s ((0 : Nat) : Int) o a b c k cl nm ds l) (fun n => by simp [secateurref07_Fits.j2]) hl0
  refine Ev.step (f := fun n => secateurref07_Fits.j2 n regs code s (badQ (hasC s 97) (hasC s 98) (hasC s 99) void a b c regs) o a b c k cl nm ds l) (fun n => ?_) (j2 _)
  simp only [secateurref07_Fits.j1]
  rw [has_ref s hs, has_ref s hs, has_ref s hs, within_ref, within_ref, within_ref]
  unfold badQ
  have e0 : (a != 0) = !(a == 0) := rfl
  rw [e0]
  generalize hasC s 97 = qa
  generalize hasC s 98 = qb
  generalize hasC s 99 = qc
  generalize okR regs a = ra
  generalize okR regs b = rb
  generalize okR regs c = rc
  generalize (a == 0) = z
  cases qa <;> cases qb <;> cases qc <;> cases ra <;> cases rb <;> cases rc <;> cases void <;> rfl
end
def fitsR (o a b c k : Int) (ds : ByteArray) (l : List Int) (regs code : Int) (s : ByteArray) : Int :=
  if (isCallB o && !((l.length : Int) == callN o ds)) = true then 9
  else if badQ (hasC s 97) (hasC s 98) (hasC s 99) (isCallB o && (splitB ds).2.1 == 1) a b c regs = true then 12
  else if l.all (okR regs) = true then (if lateQ (hasC s 116) (hasC s 114) k code = true then 12 else 0) else 12
theorem fits_j0 (o a b c k : Int) (cl nm ds : ByteArray) (l : List Int) (regs code : Int) (s : ByteArray) (hs : s.size ≤ 4) (hl : l.length ≤ 60) :
    Ev (fun n => secateurref07_Fits.j0 n regs code s false o a b c k cl nm ds l) (fitsR o a b c k ds l regs code s) := by
  have j1 := fun v => fits_j1 o a b c k cl nm ds l regs code s hs hl v
  refine Ev.step (f := fun n => (secateurref07_IsCall.f o).bind fun t220 => (if t220 = true then ((secateurref06_Split.f n ds).bind fun bt221 => (if o = 19 then (if (l.length : Int) = (bt221.1.length : Int) then (secateurref07_Fits.j1 n regs code s (bt221.2.1 == 1) o a b c k cl nm ds l) else (some 9)) else (if (l.length : Int) = (wrap64 ((bt221.1.length : Int) + 1)) then (secateurref07_Fits.j1 n regs code s (bt221.2.1 == 1) o a b c k cl nm ds l) else (some 9)))) else (secateurref07_Fits.j1 n regs code s false o a b c k cl nm ds l))) (fun n => by
    simp only [secateurref07_Fits.j0]
    rw [if_neg (by simp)]) ?_
  rw [isCall_ref]
  unfold fitsR
  cases hc : isCallB o with
  | false =>
    refine Ev.congr (f := fun n => secateurref07_Fits.j1 n regs code s false o a b c k cl nm ds l) (fun n => rfl) ?_
    rw [Bool.false_and, Bool.false_and, if_neg (by simp)]
    exact j1 false
  | true =>
    rw [Bool.true_and, Bool.true_and]
    have hS := Split_ref ds
    have h8 := splitB_len ds
    have hlen : ((splitB ds).1.map typ).length = (splitB ds).1.length := List.length_map ..
    refine Ev.congr (f := fun n => (secateurref06_Split.f n ds).bind fun bt221 => (if o = 19 then (if (l.length : Int) = (bt221.1.length : Int) then (secateurref07_Fits.j1 n regs code s (bt221.2.1 == 1) o a b c k cl nm ds l) else (some 9)) else (if (l.length : Int) = (wrap64 ((bt221.1.length : Int) + 1)) then (secateurref07_Fits.j1 n regs code s (bt221.2.1 == 1) o a b c k cl nm ds l) else (some 9)))) (fun n => rfl) (Ev.bind hS ?_)
    simp only [hlen]
    rw [wrap_succ _ (by omega)]
    have hN : callN o ds = if o = 19 then ((splitB ds).1.length : Int) else (((splitB ds).1.length + 1 : Nat) : Int) := by
      unfold callN
      split
      · rfl
      · omega
    rw [hN]
    by_cases h19 : o = 19
    · simp only [h19, if_true]
      by_cases he : (l.length : Int) = ((splitB ds).1.length : Int)
      · rw [beq_iff_eq.mpr he]
        refine Ev.congr (f := fun n => secateurref07_Fits.j1 n regs code s ((splitB ds).2.1 == 1) 19 a b c k cl nm ds l) (fun n => if_pos he) ?_
        rw [h19] at j1
        exact j1 _
      · rw [beq_eq_false_iff_ne.mpr he]
        exact Ev.congr (f := fun n => some 9) (fun n => if_neg he) (Ev.now _)
    · simp only [if_neg h19]
      by_cases he : (l.length : Int) = (((splitB ds).1.length + 1 : Nat) : Int)
      · rw [beq_iff_eq.mpr he]
        exact Ev.congr (f := fun n => secateurref07_Fits.j1 n regs code s ((splitB ds).2.1 == 1) o a b c k cl nm ds l) (fun n => if_pos he) (j1 _)
      · rw [beq_eq_false_iff_ne.mpr he]
        exact Ev.congr (f := fun n => some 9) (fun n => if_neg he) (Ev.now _)
theorem fits_fin (o a b c k : Int) (cl nm ds : ByteArray) (l : List Int) (regs code : Int) (hE : isCallB o = true → (splitB ds).2.2.2 = 0) :
    fitsR o a b c k ds l regs code (shapeB o) = fitsQ true true true (isCallB o) (callN o ds) (callA ds) l.length a ((regsL o a b c l).all (okR regs)) (lateQ (hasAnyB (shapeB o) ⟨#[116]⟩) (hasAnyB (shapeB o) ⟨#[114]⟩) k code) := by
  have L := Letters.of o
  unfold fitsR fitsQ regsL badQ
  rw [L.a, L.b, L.c, L.t, L.r, List.all_append, pfx_all]
  have hA : isCallB o = true → callA ds = !((splitB ds).2.1 == 1) := fun h => by unfold callA; rw [hE h]; rfl
  generalize lateQ (hasC (shapeB o) 116) (hasC (shapeB o) 114) k code = late
  generalize ((l.length : Int) == callN o ds) = eqn
  generalize (a == 0) = z
  generalize hasC (shapeB o) 97 = qa
  generalize hasC (shapeB o) 98 = qb
  generalize hasC (shapeB o) 99 = qc
  generalize okR regs a = ra
  generalize okR regs b = rb
  generalize okR regs c = rc
  generalize l.all (okR regs) = la
  cases hc : isCallB o with
  | false => cases qa <;> cases qb <;> cases qc <;> cases ra <;> cases rb <;> cases rc <;> cases la <;> cases late <;> rfl
  | true =>
    rw [hA hc]
    generalize ((splitB ds).2.1 == 1) = v
    cases eqn with
    | false => rfl
    | true =>
      cases v with
      | false => cases qa <;> cases qb <;> cases qc <;> cases ra <;> cases rb <;> cases rc <;> cases la <;> cases late <;> rfl
      | true =>
        cases z with
        | true => cases qa <;> cases qb <;> cases qc <;> cases ra <;> cases rb <;> cases rc <;> cases la <;> cases late <;> rfl
        | false => cases qa <;> cases qb <;> cases qc <;> cases ra <;> cases rb <;> cases rc <;> rfl
/-- The reference's Fits is fitsB. -/
theorem Fits_ref (o a b c k : Int) (cl nm ds : ByteArray) (l : List Int) (regs code : Int) (hcl : cl.size ≤ 300) (hnm : nm.size ≤ 300) (hl : l.length ≤ 60) :
    Ev (fun n => secateurref07_Fits.f n o a b c k cl nm ds l regs code) (fitsB o a b c k cl nm ds l regs code) := by
  have L := Letters.of o
  have hSh : Ev (fun n => secateurref07_Shape.f n o) (shapeB o) := Ev.of (fun n => secateurref07_Shape.mono o n) (refShape o)
  have hNm := named_ref o a b c k cl nm ds l hcl hnm
  have hJ := fits_j0 o a b c k cl nm ds l regs code (shapeB o) L.size hl
  have j0t : Ev (fun n => secateurref07_Fits.j0 n regs code (shapeB o) true o a b c k cl nm ds l) 1 :=
    Ev.step (f := fun _ => some 1) (fun n => by simp only [secateurref07_Fits.j0]; rfl) (Ev.now _)
  have hem : secateurref07_empty.f o a b c k cl nm ds l (shapeB o) = some (spareB o a b c k cl nm ds l.length) := by
    have := L.size
    unfold secateurref07_empty.f
    rw [if_pos (by omega), empty_spare]
  refine Ev.congr (f := fun n => (secateurref07_Shape.f n o).bind fun t217 => (if o < 1 then (secateurref07_Fits.j0 n regs code t217 true o a b c k cl nm ds l) else (if o > 32 then (secateurref07_Fits.j0 n regs code t217 true o a b c k cl nm ds l) else ((secateurref07_empty.f o a b c k cl nm ds l t217).bind fun t218 => (if t218 = true then ((secateurref07_named.f n o a b c k cl nm ds l t217).bind fun t219 => (secateurref07_Fits.j0 n regs code t217 (!t219) o a b c k cl nm ds l)) else (secateurref07_Fits.j0 n regs code t217 true o a b c k cl nm ds l)))))) (fun n => rfl) (Ev.bind hSh ?_)
  unfold fitsB
  by_cases h1 : o < 1
  · have hr : rightB o = false := by unfold rightB; rw [decide_eq_false (by omega)]; rfl
    rw [hr]
    exact Ev.congr (f := fun n => secateurref07_Fits.j0 n regs code (shapeB o) true o a b c k cl nm ds l) (fun n => if_pos h1) j0t
  · by_cases h2 : o > 32
    · have hr : rightB o = false := by unfold rightB; rw [decide_eq_false (by omega : ¬ o ≤ 32), Bool.and_false]
      rw [hr]
      exact Ev.congr (f := fun n => secateurref07_Fits.j0 n regs code (shapeB o) true o a b c k cl nm ds l) (fun n => (if_neg h1).trans (if_pos h2)) j0t
    · have hr : rightB o = true := by unfold rightB; rw [decide_eq_true (by omega : 1 ≤ o), decide_eq_true (by omega : o ≤ 32)]; rfl
      rw [hr]
      refine Ev.congr (f := fun n => (secateurref07_empty.f o a b c k cl nm ds l (shapeB o)).bind fun t218 => (if t218 = true then ((secateurref07_named.f n o a b c k cl nm ds l (shapeB o)).bind fun t219 => (secateurref07_Fits.j0 n regs code (shapeB o) (!t219) o a b c k cl nm ds l)) else (secateurref07_Fits.j0 n regs code (shapeB o) true o a b c k cl nm ds l))) (fun n => (if_neg h1).trans (if_neg h2)) ?_
      rw [hem]
      cases hsp : spareB o a b c k cl nm ds l.length with
      | false => exact Ev.congr (f := fun n => secateurref07_Fits.j0 n regs code (shapeB o) true o a b c k cl nm ds l) (fun n => rfl) j0t
      | true =>
        refine Ev.congr (f := fun n => (secateurref07_named.f n o a b c k cl nm ds l (shapeB o)).bind fun t219 => (secateurref07_Fits.j0 n regs code (shapeB o) (!t219) o a b c k cl nm ds l)) (fun n => rfl) (Ev.bind hNm ?_)
        cases hnd : namedB o cl nm ds with
        | false => exact j0t
        | true =>
          have hE : isCallB o = true → (splitB ds).2.2.2 = 0 := fun hc => by
            have hM := call_M o hc
            unfold namedB at hnd
            rw [L.M, hM] at hnd
            simp at hnd
            exact hnd.1
          rw [← fits_fin o a b c k cl nm ds l regs code hE]
          exact hJ
end Go.Proofs.YtmamaijiphdggaaDoor.Math
