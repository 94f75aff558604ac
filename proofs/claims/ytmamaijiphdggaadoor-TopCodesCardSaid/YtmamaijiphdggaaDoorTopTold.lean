/- Plain facts: what package op tells of an instruction, as total functions; what fits. -/
import Derived.Test.YtmamaijiphdggaaDoorPTopx3
import Derived.Test.YtmamaijiphdggaaDoorRefHas
namespace Go.Proofs.YtmamaijiphdggaaDoor.TopMath
open Go.RowKit Go.Proofs.YtmamaijiphdggaaDoor.PTop Go.Proofs.YtmamaijiphdggaaDoor.Given Go.Proofs.YtmamaijiphdggaaDoorW.PrintWords Go.Proofs.YtmamaijiphdggaaDoorW.PrintLast Go.Proofs.YtmamaijiphdggaaDoorW.PrintMore
set_option linter.unusedVariables false
set_option linter.unusedSimpArgs false

theorem wrap_succ (i : Nat) (h : i < 9223372036854775807) : wrap64 ((i : Int) + 1) = ((i + 1 : Nat) : Int) := by unfold wrap64; omega
theorem rd_at (l : List Int) (i : Nat) (h : i < l.length) : rd l (i : Int) = l[i] := by
  unfold rd
  simp [List.getD, List.getElem?_eq_getElem h]
/-! ### the shapes' letters -/
def lettersOk (s : ByteArray) : Bool :=
  (hasAnyB s ⟨#[97]⟩ == hasC s 97) && (hasAnyB s ⟨#[98]⟩ == hasC s 98) && (hasAnyB s ⟨#[99]⟩ == hasC s 99) && (hasAnyB s ⟨#[116]⟩ == hasC s 116) && (hasAnyB s ⟨#[114]⟩ == hasC s 114) && (hasAnyB s ⟨#[77]⟩ == hasC s 77) && (hasAnyB s ⟨#[118]⟩ == hasC s 118)
  && (hasAnyB s ⟨#[107, 116, 114]⟩ == (hasC s 107 || (hasC s 116 || hasC s 114))) && (hasAnyB s ⟨#[67, 70, 77]⟩ == (hasC s 67 || (hasC s 70 || hasC s 77))) && (hasAnyB s ⟨#[70, 77]⟩ == (hasC s 70 || hasC s 77)) && decide (s.size ≤ 4)
theorem letters_in : ∀ n : Fin 33, lettersOk (shapeB (n.val : Int)) = true := by decide +kernel
theorem letters_out : lettersOk ⟨#[]⟩ = true := by decide +kernel
theorem letters (o : Int) : lettersOk (shapeB o) = true := by
  by_cases h : 0 ≤ o ∧ o ≤ 32
  · have := letters_in ⟨o.toNat, by omega⟩
    simpa [Int.toNat_of_nonneg h.1] using this
  · have hs : shapeB o = ⟨#[]⟩ := by unfold shapeB; rw [if_neg (by omega)]
    rw [hs]; exact letters_out
theorem call_letters_in : ∀ n : Fin 33, (!(isCallB (n.val : Int)) || hasC (shapeB (n.val : Int)) 77) = true := by decide +kernel
theorem call_M (o : Int) (h : isCallB o = true) : hasC (shapeB o) 77 = true := by
  have ho : 0 ≤ o ∧ o ≤ 32 := by
    unfold isCallB at h
    simp at h
    omega
  have := call_letters_in ⟨o.toNat, by omega⟩
  simp only [Int.toNat_of_nonneg ho.1] at this
  rw [h] at this
  simpa using this
structure Letters (s : ByteArray) : Prop where
  a : hasAnyB s ⟨#[97]⟩ = hasC s 97
  b : hasAnyB s ⟨#[98]⟩ = hasC s 98
  c : hasAnyB s ⟨#[99]⟩ = hasC s 99
  t : hasAnyB s ⟨#[116]⟩ = hasC s 116
  r : hasAnyB s ⟨#[114]⟩ = hasC s 114
  M : hasAnyB s ⟨#[77]⟩ = hasC s 77
  v : hasAnyB s ⟨#[118]⟩ = hasC s 118
  k : hasAnyB s ⟨#[107, 116, 114]⟩ = (hasC s 107 || (hasC s 116 || hasC s 114))
  C : hasAnyB s ⟨#[67, 70, 77]⟩ = (hasC s 67 || (hasC s 70 || hasC s 77))
  F : hasAnyB s ⟨#[70, 77]⟩ = (hasC s 70 || hasC s 77)
  size : s.size ≤ 4
theorem Letters.of (o : Int) : Letters (shapeB o) := by
  have h := letters o
  unfold lettersOk at h
  simp only [Bool.and_eq_true, beq_iff_eq, decide_eq_true_eq] at h
  obtain ⟨⟨⟨⟨⟨⟨⟨⟨⟨⟨h1, h2⟩, h3⟩, h4⟩, h5⟩, h6⟩, h7⟩, h8⟩, h9⟩, h10⟩, h11⟩ := h
  exact ⟨h1, h2, h3, h4, h5, h6, h7, h8, h9, h10, h11⟩
/-! ### what the shape lacks -/
theorem isEmpty_size (s : ByteArray) : s.toList.isEmpty = (s.size == 0) := by
  rw [← toList_nil]
  cases s.toList <;> rfl
theorem zi_zero (q : Bool) (x : Int) : (zi q x == 0) = (q || x == 0) := by cases q <;> rfl
theorem zs_zero (q : Bool) (x : ByteArray) : ((zs q x).size == 0) = (q || x.size == 0) := by cases q <;> rfl
theorem zn_zero (q : Bool) (n : Nat) : (zn q n == 0) = (q || n == 0) := by cases q <;> rfl
theorem cast_zero (n : Nat) : (((n : Int)) == 0) = (n == 0) := by
  rw [Bool.eq_iff_iff]; simp
theorem opHas (s t : ByteArray) : op_has.f s t = some (hasAnyB s t) := rfl
theorem opCall_ref (o : Int) : op_IsCall.f o = some (isCallB o) := by
  unfold op_IsCall.f isCallB
  by_cases h1 : o = 19
  · subst h1; rfl
  · by_cases h2 : o = 20
    · subst h2; rfl
    · by_cases h3 : o = 21
      · subst h3; rfl
      · rw [if_neg h1, if_neg h2, if_neg h3, beq_eq_false_iff_ne.mpr h1, beq_eq_false_iff_ne.mpr h2, beq_eq_false_iff_ne.mpr h3]; rfl
/-! ### Uses -/
def usesB (s : ByteArray) (o a b c : Int) (l : List Int) : List Int := (((if o = 14 then [a] else []) ++ oneIf (hasC s 98) b) ++ oneIf (hasC s 99) c) ++ (if hasC s 118 = true then l else [])
theorem opUses_ref (o a b c k : Int) (cl nm ds : ByteArray) (l : List Int) (hl : l.length ≤ 60) : Ev (fun n => op_Uses.f n o a b c k cl nm ds l) (usesB (shapeB o) o a b c l) := by
  have L := Letters.of o
  have j1 : ∀ acc : List Int, acc.length ≤ 2 → Ev (fun n => op_Uses.j1 n (shapeB o) acc o a b c k cl nm ds l) ((acc ++ oneIf (hasC (shapeB o) 99) c) ++ (if hasC (shapeB o) 118 = true then l else [])) := fun acc ha => by
    refine Ev.step (f := fun _ => some ((acc ++ oneIf (hasC (shapeB o) 99) c) ++ (if hasC (shapeB o) 118 = true then l else []))) (fun n => ?_) (Ev.now _)
    simp only [op_Uses.j1, opHas, L.c, L.v, Option.bind_some]
    generalize hasC (shapeB o) 99 = qc
    generalize hasC (shapeB o) 118 = qv
    cases qc <;> cases qv <;> simp [oneIf] <;> omega
  have j0 : ∀ acc : List Int, acc.length ≤ 1 → Ev (fun n => op_Uses.j0 n (shapeB o) acc o a b c k cl nm ds l) (((acc ++ oneIf (hasC (shapeB o) 98) b) ++ oneIf (hasC (shapeB o) 99) c) ++ (if hasC (shapeB o) 118 = true then l else [])) := fun acc ha => by
    refine Ev.step (f := fun n => op_Uses.j1 n (shapeB o) (acc ++ oneIf (hasC (shapeB o) 98) b) o a b c k cl nm ds l) (fun n => ?_) (j1 _ ?_)
    · simp only [op_Uses.j0, opHas, L.b, Option.bind_some]
      cases hasC (shapeB o) 98
      · simp [oneIf]
      · simp [oneIf]; omega
    · cases hasC (shapeB o) 98 <;> simp [oneIf] <;> omega
  unfold usesB
  by_cases h : o = 14
  · rw [if_pos h]
    exact Ev.congr (f := fun n => op_Uses.j0 n (shapeB o) [a] o a b c k cl nm ds l) (fun n => by unfold op_Uses.f op_Shape.f; simp [h]) (j0 [a] (by simp))
  · rw [if_neg h]
    exact Ev.congr (f := fun n => op_Uses.j0 n (shapeB o) [] o a b c k cl nm ds l) (fun n => by unfold op_Uses.f op_Shape.f; simp [h]) (j0 [] (by simp))
/-! ### Sets -/
def setsB (s : ByteArray) (o a : Int) (ds : ByteArray) : Int × Bool := if (o == 14 || !(hasC s 97)) = true then (0, false) else if (isCallB o && !(callA ds)) = true then (0, false) else (a, true)
theorem opSets_ref (o a b c k : Int) (cl nm ds : ByteArray) (l : List Int) (hds : ds.size ≤ 300) : Ev (fun n => op_Sets.f n o a b c k cl nm ds l) (setsB (shapeB o) o a ds) := by
  have L := Letters.of o
  have hcl : op_call.f o a b c k cl nm ds l = some (callN o ds, callA ds) := by unfold op_call.f; rw [if_pos (by omega)]
  have j0 : ∀ x, Ev (fun n => op_Sets.j0 n x o a b c k cl nm ds l) (if x = true then (0, false) else if (isCallB o && !(callA ds)) = true then (0, false) else (a, true)) := fun x => by
    refine Ev.step (f := fun _ => some (if x = true then (0, false) else if (isCallB o && !(callA ds)) = true then (0, false) else (a, true))) (fun n => ?_) (Ev.now _)
    simp only [op_Sets.j0, opCall_ref, hcl, Option.bind_some]
    cases x <;> cases isCallB o <;> cases callA ds <;> rfl
  unfold setsB
  by_cases h : o = 14
  · have h2 : (o == 14) = true := beq_iff_eq.mpr h
    rw [h2, Bool.true_or]
    exact Ev.congr (f := fun n => op_Sets.j0 n true o a b c k cl nm ds l) (fun n => by unfold op_Sets.f; rw [if_pos h, h2]) (j0 true)
  · have h2 : (o == 14) = false := beq_eq_false_iff_ne.mpr h
    rw [h2, Bool.false_or]
    exact Ev.congr (f := fun n => op_Sets.j0 n (!(hasC (shapeB o) 97)) o a b c k cl nm ds l) (fun n => by unfold op_Sets.f op_Shape.f; rw [if_neg h, ← L.a]; rfl) (j0 _)
/-! ### Target -/
def targetB (s : ByteArray) (k : Int) : Int × Bool := if (hasC s 116 && (decide (0 ≤ k) && decide (k ≤ 256))) = true then (k, true) else (0, false)
theorem pfx_all (qa qb qc : Bool) (a b c regs : Int) : (pfx qa qb qc a b c 3).all (okR regs) = ((!qa || okR regs a) && ((!qb || okR regs b) && (!qc || okR regs c))) := by
  cases qa <;> cases qb <;> cases qc <;> simp [pfx, oneIf]
/-! ### what fits -/
structure Fitted (o a b c k : Int) (cl nm ds : ByteArray) (l : List Int) (regs code : Int) : Prop where
  right : rightB o = true
  spare : spareB o a b c k cl nm ds l.length = true
  named : namedB o cl nm ds = true
  args : isCallB o = true → ((l.length : Int) == callN o ds) = true
  void : isCallB o = true → (callA ds || a == 0) = true
  regs : (regsL o a b c l).all (okR regs) = true
  late : lateQ (hasC (shapeB o) 116) (hasC (shapeB o) 114) k code = false
theorem fits_iff (o a b c k : Int) (cl nm ds : ByteArray) (l : List Int) (regs code : Int) : fitsB o a b c k cl nm ds l regs code = 0 ↔ Fitted o a b c k cl nm ds l regs code := by
  have L := Letters.of o
  unfold fitsB fitsQ
  rw [L.t, L.r]
  constructor
  · intro h
    split at h
    · cases h
    · rename_i h1
      split at h
      · cases h
      · rename_i h2
        split at h
        · cases h
        · rename_i h3
          split at h
          · cases h
          · rename_i h4
            split at h
            · cases h
            · rename_i h5
              simp only [Bool.or_eq_true, Bool.not_eq_true', Bool.and_eq_true, not_or, not_and, Bool.not_eq_false, Bool.not_eq_true] at h1 h2 h3 h4 h5
              refine ⟨h1.1, h1.2.1, h1.2.2, h2, fun hc => ?_, h4, h5⟩
              cases ha : callA ds with
              | true => rfl
              | false => rw [Bool.false_or]; exact h3 hc ha
  · intro F
    have F4 := F.args
    have F5 := F.void
    rw [F.right, F.spare, F.named, F.regs, F.late]
    cases hc : isCallB o with
    | false => rfl
    | true =>
      rw [F4 hc]
      have := F5 hc
      cases ha : callA ds with
      | true => rfl
      | false =>
        rw [ha, Bool.false_or] at this
        rw [this]; rfl
theorem okR_more {regs r : Int} (h : okR regs r = true) : okR (regs + 1) r = true := by
  unfold okR at *
  simp only [Bool.and_eq_true, decide_eq_true_eq] at *
  omega
theorem lateQ_more {qt qr : Bool} {k code : Int} (h : lateQ qt qr k code = false) : lateQ qt qr k (code + 1) = false := by
  unfold lateQ at *
  cases qt <;> cases qr <;> simp at * <;> omega
theorem Fitted.regs_more {o a b c k : Int} {cl nm ds : ByteArray} {l : List Int} {regs code : Int} (F : Fitted o a b c k cl nm ds l regs code) : Fitted o a b c k cl nm ds l (regs + 1) code :=
  ⟨F.right, F.spare, F.named, F.args, F.void, by
    have := F.regs
    rw [List.all_eq_true] at *
    exact fun x hx => okR_more (this x hx), F.late⟩
theorem Fitted.code_more {o a b c k : Int} {cl nm ds : ByteArray} {l : List Int} {regs code : Int} (F : Fitted o a b c k cl nm ds l regs code) : Fitted o a b c k cl nm ds l regs (code + 1) :=
  ⟨F.right, F.spare, F.named, F.args, F.void, F.regs, lateQ_more F.late⟩
theorem Fitted.uses {o a b c k : Int} {cl nm ds : ByteArray} {l : List Int} {regs code : Int} (F : Fitted o a b c k cl nm ds l regs code) : ∀ u ∈ usesB (shapeB o) o a b c l, 0 ≤ u ∧ u < regs := by
  have L := Letters.of o
  have hr := F.regs
  unfold regsL at hr
  rw [L.a, L.b, L.c, List.all_append, pfx_all, Bool.and_eq_true, Bool.and_eq_true, Bool.and_eq_true] at hr
  obtain ⟨⟨ra, rb, rc⟩, rl⟩ := hr
  have ok : ∀ r, okR regs r = true → 0 ≤ r ∧ r < regs := fun r h => by
    unfold okR at h
    simpa using h
  intro u hu
  unfold usesB at hu
  rw [List.mem_append, List.mem_append, List.mem_append] at hu
  rcases hu with ((hu | hu) | hu) | hu
  · split at hu
    · rename_i h14
      subst h14
      have h97 : hasC (shapeB 14) 97 = true := by decide +kernel
      rw [h97] at ra
      simp at hu
      subst hu
      exact ok _ (by simpa using ra)
    · simp at hu
  · unfold oneIf at hu
    cases hq : hasC (shapeB o) 98 with
    | false => rw [hq] at hu; simp at hu
    | true =>
      rw [hq] at hu rb
      simp at hu
      subst hu
      exact ok _ (by simpa using rb)
  · unfold oneIf at hu
    cases hq : hasC (shapeB o) 99 with
    | false => rw [hq] at hu; simp at hu
    | true =>
      rw [hq] at hu rc
      simp at hu
      subst hu
      exact ok _ (by simpa using rc)
  · split at hu
    · exact ok _ (List.all_eq_true.1 rl u hu)
    · simp at hu
theorem Fitted.sets {o a b c k : Int} {cl nm ds : ByteArray} {l : List Int} {regs code : Int} (F : Fitted o a b c k cl nm ds l regs code) (h : (setsB (shapeB o) o a ds).2 = true) : 0 ≤ (setsB (shapeB o) o a ds).1 ∧ (setsB (shapeB o) o a ds).1 < regs := by
  have L := Letters.of o
  have hr := F.regs
  unfold regsL at hr
  rw [L.a, L.b, L.c, List.all_append, pfx_all, Bool.and_eq_true, Bool.and_eq_true, Bool.and_eq_true] at hr
  obtain ⟨⟨ra, rb, rc⟩, rl⟩ := hr
  unfold setsB at *
  split at h
  · cases h
  · rename_i h1
    rw [if_neg h1]
    split at h
    · cases h
    · rename_i h2
      rw [if_neg h2]
      have h97 : hasC (shapeB o) 97 = true := by
        simp at h1
        exact h1.2
      rw [h97] at ra
      unfold okR at ra
      simpa using ra
theorem Fitted.target {o a b c k : Int} {cl nm ds : ByteArray} {l : List Int} {regs code : Int} (F : Fitted o a b c k cl nm ds l regs code) (h : (targetB (shapeB o) k).2 = true) : (targetB (shapeB o) k).1 < code := by
  have hl := F.late
  unfold targetB at *
  split at h
  · rename_i h1
    rw [if_pos h1]
    simp only [Bool.and_eq_true, decide_eq_true_eq] at h1
    unfold lateQ at hl
    rw [h1.1] at hl
    simp at hl
    omega
  · cases h
end Go.Proofs.YtmamaijiphdggaaDoor.TopMath
