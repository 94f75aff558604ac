/- Plain facts: what the reference of package op tells of an instruction, as the same total functions. -/
import Derived.Test.YtmamaijiphdggaaDoorPOpx16
import Derived.Test.YtmamaijiphdggaaDoorPOpx11
import Derived.Test.YtmamaijiphdggaaDoorPOpx12
import Derived.Test.YtmamaijiphdggaaDoorRefSplit
namespace Go.Proofs.YtmamaijiphdggaaDoor.Math
open Go.RowKit Go.Proofs.YtmamaijiphdggaaDoor.POp Go.Proofs.YtmamaijiphdggaaDoor.Given Go.Proofs.YtmamaijiphdggaaDoorW.PrintWords Go.Proofs.YtmamaijiphdggaaDoorW.PrintLast Go.Proofs.YtmamaijiphdggaaDoorW.PrintMore
set_option linter.unusedVariables false
set_option linter.unusedSimpArgs false

theorem refUses_ref (o a b c k : Int) (cl nm ds : ByteArray) (l : List Int) (hl : l.length ≤ 60) : Ev (fun n => secateurref07_Uses.f n o a b c k cl nm ds l) (usesB (shapeB o) o a b c l) := by
  have L := Letters.of o
  have hz := L.size
  have hSh : Ev (fun n => secateurref07_Shape.f n o) (shapeB o) := Ev.of (fun n => secateurref07_Shape.mono o n) (refShape o)
  have j1 : ∀ acc : List Int, acc.length ≤ 2 → Ev (fun n => secateurref07_Uses.j1 n (shapeB o) acc o a b c k cl nm ds l) ((acc ++ oneIf (hasC (shapeB o) 99) c) ++ (if hasC (shapeB o) 118 = true then l else [])) := fun acc ha => by
    refine Ev.step (f := fun _ => some ((acc ++ oneIf (hasC (shapeB o) 99) c) ++ (if hasC (shapeB o) 118 = true then l else []))) (fun n => ?_) (Ev.now _)
    simp only [secateurref07_Uses.j1, has_ref _ hz, Option.bind_some]
    generalize hasC (shapeB o) 99 = qc
    generalize hasC (shapeB o) 118 = qv
    cases qc <;> cases qv <;> simp [oneIf] <;> omega
  have j0 : ∀ acc : List Int, acc.length ≤ 1 → Ev (fun n => secateurref07_Uses.j0 n (shapeB o) acc o a b c k cl nm ds l) (((acc ++ oneIf (hasC (shapeB o) 98) b) ++ oneIf (hasC (shapeB o) 99) c) ++ (if hasC (shapeB o) 118 = true then l else [])) := fun acc ha => by
    refine Ev.step (f := fun n => secateurref07_Uses.j1 n (shapeB o) (acc ++ oneIf (hasC (shapeB o) 98) b) o a b c k cl nm ds l) (fun n => ?_) (j1 _ ?_)
    · simp only [secateurref07_Uses.j0, has_ref _ hz, Option.bind_some]
      cases hasC (shapeB o) 98
      · simp [oneIf]
      · simp [oneIf]; omega
    · cases hasC (shapeB o) 98 <;> simp [oneIf] <;> omega
  unfold usesB
  refine Ev.congr (f := fun n => (secateurref07_Shape.f n o).bind fun t265 => (if o = 14 then (if ([] : List Int).length < 17592186044416 then (secateurref07_Uses.j0 n t265 (([] : List Int) ++ [a]) o a b c k cl nm ds l) else (none)) else (secateurref07_Uses.j0 n t265 ([] : List Int) o a b c k cl nm ds l))) (fun n => rfl) (Ev.bind hSh ?_)
  by_cases h : o = 14
  · rw [if_pos h]
    exact Ev.congr (f := fun n => secateurref07_Uses.j0 n (shapeB o) [a] o a b c k cl nm ds l) (fun n => by simp [h]) (j0 [a] (by simp))
  · rw [if_neg h]
    exact Ev.congr (f := fun n => secateurref07_Uses.j0 n (shapeB o) [] o a b c k cl nm ds l) (fun n => by simp [h]) (j0 [] (by simp))

theorem refSets_ref (o a b c k : Int) (cl nm ds : ByteArray) (l : List Int) (hds : ds.size ≤ 300) : Ev (fun n => secateurref07_Sets.f n o a b c k cl nm ds l) (setsB (shapeB o) o a ds) := by
  have L := Letters.of o
  have hSh : Ev (fun n => secateurref07_Shape.f n o) (shapeB o) := Ev.of (fun n => secateurref07_Shape.mono o n) (refShape o)
  have hS := Split_ref ds
  have j0t : Ev (fun n => secateurref07_Sets.j0 n true o a b c k cl nm ds l) (0, false) :=
    Ev.step (f := fun _ => some (0, false)) (fun n => by simp only [secateurref07_Sets.j0]; rfl) (Ev.now _)
  have j0f : Ev (fun n => secateurref07_Sets.j0 n false o a b c k cl nm ds l) (if (isCallB o && !(callA ds)) = true then (0, false) else (a, true)) := by
    refine Ev.step (f := fun n => (secateurref07_IsCall.f o).bind fun t255 => (if t255 = true then ((secateurref06_Split.f n ds).bind fun bt256 => (if bt256.2.2.2 = 0 then (if bt256.2.1 = 1 then (some (0, false)) else (some (a, true))) else (some (0, false)))) else (some (a, true)))) (fun n => by
      simp only [secateurref07_Sets.j0]
      rw [if_neg (by simp)]) ?_
    rw [isCall_ref]
    cases isCallB o with
    | false => exact Ev.now _
    | true =>
      refine Ev.congr (f := fun n => (secateurref06_Split.f n ds).bind fun bt256 => (if bt256.2.2.2 = 0 then (if bt256.2.1 = 1 then (some (0, false)) else (some (a, true))) else (some (0, false)))) (fun n => rfl) (Ev.bind hS ?_)
      unfold callA
      by_cases h1 : (splitB ds).2.2.2 = 0
      · by_cases h2 : (splitB ds).2.1 = 1
        · exact Ev.congr (f := fun _ => some (0, false)) (fun n => (if_pos h1).trans (if_pos h2)) (by simpa [h1, h2] using Ev.now ((0 : Int), false))
        · exact Ev.congr (f := fun _ => some (a, true)) (fun n => (if_pos h1).trans (if_neg h2)) (by simpa [h1, h2] using Ev.now (a, true))
      · exact Ev.congr (f := fun _ => some (0, false)) (fun n => if_neg h1) (by simpa [h1] using Ev.now ((0 : Int), false))
  refine Ev.congr (f := fun n => (secateurref07_Shape.f n o).bind fun t253 => ((secateurref07_Has.f t253 97).bind fun t254 => (if t254 = true then (secateurref07_Sets.j0 n (o == 14) o a b c k cl nm ds l) else (secateurref07_Sets.j0 n true o a b c k cl nm ds l)))) (fun n => rfl) (Ev.bind hSh ?_)
  rw [has_ref _ L.size]
  unfold setsB
  cases hasC (shapeB o) 97 with
  | false =>
    rw [Bool.not_false, Bool.or_true]
    exact Ev.congr (f := fun n => secateurref07_Sets.j0 n true o a b c k cl nm ds l) (fun n => rfl) j0t
  | true =>
    rw [Bool.not_true, Bool.or_false]
    refine Ev.congr (f := fun n => secateurref07_Sets.j0 n (o == 14) o a b c k cl nm ds l) (fun n => rfl) ?_
    cases (o == 14) with
    | true => exact j0t
    | false => exact j0f

theorem jump_in : ∀ n : Fin 33, (hasC (shapeB (n.val : Int)) 116 == ((n.val : Int) == 6 || ((n.val : Int) == 7 || (n.val : Int) == 8))) = true := by decide +kernel
theorem jump_ref (o : Int) : hasC (shapeB o) 116 = (o == 6 || (o == 7 || o == 8)) := by
  by_cases h : 0 ≤ o ∧ o ≤ 32
  · have := jump_in ⟨o.toNat, by omega⟩
    simp only [Int.toNat_of_nonneg h.1] at this
    exact beq_iff_eq.1 this
  · have hs : shapeB o = ⟨#[]⟩ := by unfold shapeB; rw [if_neg (by omega)]
    rw [hs, beq_eq_false_iff_ne.mpr (by omega), beq_eq_false_iff_ne.mpr (by omega), beq_eq_false_iff_ne.mpr (by omega)]
    rfl
theorem refTarget_ref (o a b c k : Int) (cl nm ds : ByteArray) (l : List Int) : secateurref07_Target.f o a b c k cl nm ds l = some (targetB (shapeB o) k) := by
  unfold secateurref07_Target.f targetB
  rw [jump_ref]
  have e : (if k ≥ 0 then (if k ≤ 256 then (some (k, true)) else (some (0, false))) else (some (0, false)) : Option (Int × Bool)) = some (if (decide (0 ≤ k) && decide (k ≤ 256)) = true then (k, true) else (0, false)) := by
    by_cases h1 : k ≥ 0
    · by_cases h2 : k ≤ 256
      · rw [if_pos h1, if_pos h2, decide_eq_true h1, decide_eq_true h2]; rfl
      · rw [if_pos h1, if_neg h2, decide_eq_false h2, Bool.and_false]; rfl
    · rw [if_neg h1, decide_eq_false h1]; rfl
  rw [e]
  by_cases h6 : o = 6
  · subst h6; rfl
  · by_cases h7 : o = 7
    · subst h7; rfl
    · by_cases h8 : o = 8
      · subst h8; rfl
      · rw [if_neg h6, if_neg h7, if_neg h8, beq_eq_false_iff_ne.mpr h6, beq_eq_false_iff_ne.mpr h7, beq_eq_false_iff_ne.mpr h8]; rfl

theorem sameInts_refl (l : List Int) (hl : l.length ≤ 1000000) : Ev (fun n => secateurref01_SameInts.f n l l) true := by
  have loop : ∀ d i, l.length - i = d → i ≤ l.length → Ev (fun n => secateurref01_SameInts.l0 n l l (i : Int)) true := by
    intro d
    induction d with
    | zero =>
      intro i hd hi
      exact Ev.step (f := fun _ => some true) (fun n => by simp only [secateurref01_SameInts.l0]; rw [if_neg (by omega)]) (Ev.now _)
    | succ d ih =>
      intro i hd hi
      have hw := wrap_succ i (by omega)
      exact Ev.step (f := fun n => secateurref01_SameInts.l0 n l l ((i + 1 : Nat) : Int)) (fun n => by
        simp only [secateurref01_SameInts.l0]
        rw [if_pos (by omega), if_pos (by omega), if_pos (by omega), hw]
        rfl) (ih (i + 1) (by omega) (by omega))
  exact Ev.congr (f := fun n => secateurref01_SameInts.l0 n l l ((0 : Nat) : Int)) (fun n => by unfold secateurref01_SameInts.f; rw [if_pos rfl]; rfl) (loop _ 0 rfl (Nat.zero_le _))
theorem drop_eq (x y : List Int) (i : Nat) (hx : i < x.length) (hy : i < y.length) : decide (x.drop i = y.drop i) = (decide (x[i] = y[i]) && decide (x.drop (i + 1) = y.drop (i + 1))) := by
  rw [List.drop_eq_getElem_cons hx, List.drop_eq_getElem_cons hy]
  rw [Bool.eq_iff_iff]
  simp only [List.cons.injEq, decide_eq_true_eq, Bool.and_eq_true]
theorem equal_ref (x y : List Int) (hx : x.length ≤ 1000000) : Ev (fun n => slices_Equal_int_int.f n x y) (decide (x = y)) := by
  by_cases hl : (x.length : Int) = (y.length : Int)
  · have hl2 : x.length = y.length := by omega
    have loop : ∀ d i, x.length - i = d → i ≤ x.length → Ev (fun n => slices_Equal_int_int.l0 n x y (x.length : Int) (i : Int)) (decide (x.drop i = y.drop i)) := by
      intro d
      induction d with
      | zero =>
        intro i hd hi
        rw [List.drop_of_length_le (by omega), List.drop_of_length_le (by omega), decide_eq_true rfl]
        exact Ev.step (f := fun _ => some true) (fun n => by simp only [slices_Equal_int_int.l0]; rw [if_neg (by omega)]) (Ev.now _)
      | succ d ih =>
        intro i hd hi
        have hw := wrap_succ i (by omega)
        have h1 : i < x.length := by omega
        have h2 : i < y.length := by omega
        rw [drop_eq x y i h1 h2]
        refine Ev.step (f := fun n => if x[i] = y[i] then slices_Equal_int_int.l0 n x y (x.length : Int) ((i + 1 : Nat) : Int) else some false) (fun n => by
          simp only [slices_Equal_int_int.l0]
          rw [if_pos (by omega), if_pos (by omega), if_pos (by omega), if_pos (by omega), hw, rd_at x i h1, rd_at y i h2]) ?_
        by_cases he : x[i] = y[i]
        · rw [decide_eq_true he, Bool.true_and]
          exact Ev.congr (fun n => if_pos he) (ih (i + 1) (by omega) (by omega))
        · rw [decide_eq_false he, Bool.false_and]
          exact Ev.congr (f := fun _ => some false) (fun n => if_neg he) (Ev.now _)
    have := loop _ 0 rfl (Nat.zero_le _)
    rw [List.drop_zero, List.drop_zero] at this
    exact Ev.congr (fun n => by unfold slices_Equal_int_int.f; rw [if_pos hl]; rfl) this
  · have hne : ¬ x = y := fun e => hl (by rw [e])
    rw [decide_eq_false hne]
    exact Ev.congr (f := fun _ => some false) (fun n => by unfold slices_Equal_int_int.f; rw [if_neg hl]) (Ev.now _)
section
variable (o a b c k : Int) (cl nm ds : ByteArray) (l : List Int) (o' a' b' c' k' : Int) (cl' nm' ds' : ByteArray) (l' : List Int)
/-- The fields beside the arguments. -/
def fieldsO : Option Bool := (if o = o' then (if a = a' then (if b = b' then (if c = c' then (if k = k' then (if cl.toList = cl'.toList then (if nm.toList = nm'.toList then (some (ds.toList == ds'.toList)) else (some false)) else (some false)) else (some false)) else (some false)) else (some false)) else (some false)) else (some false))
theorem fields_some : ∃ r, fieldsO o a b c k cl nm ds o' a' b' c' k' cl' nm' ds' = some r := by
  unfold fieldsO
  repeat' split
  all_goals exact ⟨_, rfl⟩
theorem fields_self : fieldsO o a b c k cl nm ds o a b c k cl nm ds = some true := by
  unfold fieldsO
  simp
theorem opSame_ref (hl : l.length ≤ 60) {r : Bool} (hr : fieldsO o a b c k cl nm ds o' a' b' c' k' cl' nm' ds' = some r) : Ev (fun n => op_Same.f n o a b c k cl nm ds l o' a' b' c' k' cl' nm' ds' l') (decide (l = l') && r) := by
  refine Ev.congr (f := fun n => (slices_Equal_int_int.f n l l').bind fun t => if t = true then fieldsO o a b c k cl nm ds o' a' b' c' k' cl' nm' ds' else some false) (fun n => rfl) (Ev.bind (equal_ref l l' (by omega)) ?_)
  rw [hr]
  cases decide (l = l') with
  | true => exact Ev.now _
  | false => exact Ev.now _
theorem refSame_ref (hl : l.length ≤ 60) {r : Bool} (hr : fieldsO o a b c k cl nm ds o' a' b' c' k' cl' nm' ds' = some r) : Ev (fun n => secateurref07_Same.f n o a b c k cl nm ds l o' a' b' c' k' cl' nm' ds' l') (decide (l = l') && r) := by
  by_cases hll : (l.length : Int) = (l'.length : Int)
  · have loop : ∀ d i, l.length - i = d → i ≤ l.length → Ev (fun n => secateurref07_Same.l0 n (i : Int) o a b c k cl nm ds l o' a' b' c' k' cl' nm' ds' l') (decide (l.drop i = l'.drop i) && r) := by
      intro d
      induction d with
      | zero =>
        intro i hd hi
        rw [List.drop_of_length_le (by omega), List.drop_of_length_le (by omega), decide_eq_true rfl, Bool.true_and]
        exact Ev.step (f := fun _ => fieldsO o a b c k cl nm ds o' a' b' c' k' cl' nm' ds') (fun n => by simp only [secateurref07_Same.l0]; rw [if_neg (by omega)]; rfl) (Ev.congr (f := fun _ => some r) (fun _ => hr) (Ev.now _))
      | succ d ih =>
        intro i hd hi
        have hw := wrap_succ i (by omega)
        have h1 : i < l.length := by omega
        have h2 : i < l'.length := by omega
        rw [drop_eq l l' i h1 h2]
        refine Ev.step (f := fun n => if l[i] = l'[i] then secateurref07_Same.l0 n ((i + 1 : Nat) : Int) o a b c k cl nm ds l o' a' b' c' k' cl' nm' ds' l' else some false) (fun n => by
          simp only [secateurref07_Same.l0]
          rw [if_pos (by omega), if_pos (by omega), if_pos (by omega), hw, rd_at l i h1, rd_at l' i h2]) ?_
        by_cases he : l[i] = l'[i]
        · rw [decide_eq_true he, Bool.true_and]
          exact Ev.congr (fun n => if_pos he) (ih (i + 1) (by omega) (by omega))
        · rw [decide_eq_false he, Bool.false_and, Bool.false_and]
          exact Ev.congr (f := fun _ => some false) (fun n => if_neg he) (Ev.now _)
    have := loop _ 0 rfl (Nat.zero_le _)
    rw [List.drop_zero, List.drop_zero] at this
    exact Ev.congr (fun n => by unfold secateurref07_Same.f; rw [if_pos hll]; rfl) this
  · have hne : ¬ l = l' := fun e => hll (by rw [e])
    rw [decide_eq_false hne, Bool.false_and]
    exact Ev.congr (f := fun _ => some false) (fun n => by unfold secateurref07_Same.f; rw [if_neg hll]) (Ev.now _)
end

end Go.Proofs.YtmamaijiphdggaaDoor.Math
