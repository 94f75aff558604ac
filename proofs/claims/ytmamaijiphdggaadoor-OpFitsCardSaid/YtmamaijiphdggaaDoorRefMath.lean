/- Plain facts about the printed reference functions of words and descriptors: they answer as the total functions do that kind.Split and word were walked to. -/
import Derived.Test.YtmamaijiphdggaaDoorPOpx7
import Derived.Test.YtmamaijiphdggaaDoorTold
namespace Go.Proofs.YtmamaijiphdggaaDoor.Math
open Go.RowKit Go.Proofs.YtmamaijiphdggaaDoor.POp Go.Proofs.YtmamaijiphdggaaDoor.Given Go.Proofs.YtmamaijiphdggaaDoorW.PrintWords Go.Proofs.YtmamaijiphdggaaDoorW.PrintLast Go.Proofs.YtmamaijiphdggaaDoorW.PrintMore
set_option linter.unusedVariables false
set_option linter.unusedSimpArgs false

theorem letter_ref (c : Int) : secateurref04_letter.f c = some (letterB c) := by
  unfold secateurref04_letter.f letterB
  repeat' split
  all_goals
    refine congrArg some ?_
    rw [Bool.eq_iff_iff]
    simp
    omega
theorem bt_get (s : ByteArray) (i : Nat) (h : i < s.size) : bt s (i : Int) = (s[i].toNat : Int) := by
  have := bt_at s (i : Int) (by simpa using h)
  simpa using this.symm

theorem all_l0 (s : ByteArray) (m : Int) (hs : s.size ≤ 9223372036854775806) : ∀ d i, s.size - i = d → i ≤ s.size → Ev (fun k => secateurref04_all.l0 k s m (i : Int)) (allFrom (fun c => letterB c || c == m) s i)
  | 0, i, hd, hi => by
    rw [allFrom_end _ _ _ (by omega)]
    exact Ev.step (f := fun _ => some true) (fun k => by simp only [secateurref04_all.l0]; rw [if_neg (by omega)]) (Ev.now _)
  | d + 1, i, hd, hi => by
    have hlt : i < s.size := by omega
    have ih := all_l0 s m hs d (i + 1) (by omega) (by omega)
    have hst := allFrom_step (fun c => letterB c || c == m) s i hlt
    have hb := bt_get s i hlt
    rw [hst]
    refine Ev.step (f := fun k => if letterB (bt s i) = true then secateurref04_all.l0 k s m ((i + 1 : Nat) : Int) else if bt s i = m then secateurref04_all.l0 k s m ((i + 1 : Nat) : Int) else some false) (fun k => by
      simp only [secateurref04_all.l0]
      rw [if_pos (by omega), if_pos (by omega), letter_ref, wrap_succ i (by omega)]
      rfl) ?_
    rw [← hb]
    cases hl : letterB (bt s i) with
    | true => exact Ev.congr (fun k => if_pos rfl) (by simpa using ih)
    | false =>
      refine Ev.congr (fun k => if_neg (by simp)) ?_
      by_cases he : bt s i = m
      · refine Ev.congr (fun k => if_pos he) ?_
        rw [beq_iff_eq.mpr he]
        simpa using ih
      · refine Ev.congr (fun k => if_neg he) ?_
        rw [beq_eq_false_iff_ne.mpr he]
        exact Ev.now _
theorem all_ref (s : ByteArray) (m : Int) (hs : s.size ≤ 9223372036854775806) : Ev (fun k => secateurref04_all.f k s m) (ofB (fun c => letterB c || c == m) s) := by
  have ha : (s.data.toList.all fun c => (letterB (c.toNat : Int) || (c.toNat : Int) == m)) = allFrom (fun c => letterB c || c == m) s 0 := by simp [allFrom]
  unfold ofB
  rw [ha]
  by_cases h1 : (s.size : Int) < 1
  · refine Ev.congr (f := fun k => secateurref04_all.j0 k s m true) (fun k => by unfold secateurref04_all.f; rw [if_pos h1]) ?_
    rw [decide_eq_false (by omega : ¬ 1 ≤ s.size), Bool.false_and, Bool.and_false]
    exact Ev.step (f := fun _ => some false) (fun k => by simp only [secateurref04_all.j0]; rfl) (Ev.now _)
  · refine Ev.congr (f := fun k => secateurref04_all.j0 k s m (decide ((s.size : Int) > 32))) (fun k => by unfold secateurref04_all.f; rw [if_neg h1]) ?_
    rw [decide_eq_true (by omega : 1 ≤ s.size), Bool.true_and]
    by_cases h2 : (s.size : Int) > 32
    · rw [decide_eq_true h2, decide_eq_false (by omega : ¬ s.size ≤ 32), Bool.and_false]
      exact Ev.step (f := fun _ => some false) (fun k => by simp only [secateurref04_all.j0]; rfl) (Ev.now _)
    · rw [decide_eq_false h2, decide_eq_true (by omega : s.size ≤ 32), Bool.and_true]
      exact Ev.step (f := fun k => secateurref04_all.l0 k s m ((0 : Nat) : Int)) (fun k => by simp only [secateurref04_all.j0]; rfl) (all_l0 s m hs _ 0 rfl (Nat.zero_le _))
theorem Class_ref (s : ByteArray) (hs : s.size ≤ 9223372036854775806) : Ev (fun k => secateurref04_Class.f k s) (ofB classB s) := by
  have h := all_ref s 47 hs
  refine Ev.congr (f := fun k => secateurref04_all.f k s 47) (fun k => ?_) h
  unfold secateurref04_Class.f
  cases secateurref04_all.f k s 47 <;> rfl
theorem letter95 (c : Int) : (letterB c || c == 95) = letterB c := by
  unfold letterB
  by_cases h : c = 95
  · subst h; rfl
  · rw [beq_eq_false_iff_ne.mpr h, Bool.or_false]
theorem Name_ref (s : ByteArray) (hs : s.size ≤ 9223372036854775806) : Ev (fun k => secateurref04_Name.f k s) (nameB s) := by
  have h := all_ref s 95 hs
  have e : ofB (fun c => letterB c || c == 95) s = ofB letterB s := by
    congr 1
    funext c
    exact letter95 c
  rw [e] at h
  unfold nameB
  by_cases hc : s.toList = ([60, 99, 108, 105, 110, 105, 116, 62] : List UInt8)
  · have h2 : (s.data.toList == clinit.data.toList) = true := by rw [beq_iff_eq, ← ByteArray.toList_eq, hc]; rfl
    rw [h2, Bool.true_or]
    exact Ev.congr (f := fun _ => some true) (fun k => by unfold secateurref04_Name.f; rw [if_pos hc]) (Ev.now _)
  · have h2 : (s.data.toList == clinit.data.toList) = false := by
      rw [beq_eq_false_iff_ne]
      intro e2
      apply hc
      rw [ByteArray.toList_eq, e2]; rfl
    rw [h2, Bool.false_or]
    refine Ev.congr (f := fun k => secateurref04_all.f k s 95) (fun k => ?_) h
    unfold secateurref04_Name.f
    rw [if_neg hc]
    cases secateurref04_all.f k s 95 <;> rfl

/-! ### the mark behind a class -/
theorem tail_list (s : ByteArray) (i : Nat) : (tailOf s i).data.toList = s.data.toList.drop i := by
  have h : s.data.size = s.size := rfl
  simp [tailOf, ByteArray.data_extract, Array.toList_extract, h]
  rw [List.take_of_length_le (by simp)]
theorem tail_cons (s : ByteArray) (i : Nat) (h : i < s.size) : (tailOf s i).data.toList = s[i] :: (tailOf s (i + 1)).data.toList := by
  rw [tail_list, tail_list, List.drop_eq_getElem_cons (by simpa using h)]
  rfl
def stopAt (s : ByteArray) (i : Nat) : Nat := if 0 ≤ semi (tailOf s i) then i + (semi (tailOf s i)).toNat else s.size
theorem stopAt_end (s : ByteArray) (i : Nat) (h : s.size ≤ i) : stopAt s i = s.size := by
  have e : (tailOf s i).data.toList = [] := by rw [tail_list, List.drop_of_length_le (by simpa using h)]
  unfold stopAt semi
  rw [e]
  rfl
theorem stopAt_hit (s : ByteArray) (i : Nat) (h : i < s.size) (h59 : bt s (i : Int) = 59) : stopAt s i = i ∧ 0 ≤ semi (tailOf s i) := by
  have hb : s[i] = 59 := by
    rw [bt_get s i h] at h59
    apply UInt8.toNat_inj.1
    have : ((59 : UInt8).toNat : Int) = 59 := rfl
    omega
  have e : semi (tailOf s i) = 0 := by
    unfold semi
    rw [tail_cons s i h, hb]
    rfl
  unfold stopAt
  rw [e]
  exact ⟨rfl, Int.le_refl _⟩
theorem stopAt_miss (s : ByteArray) (i : Nat) (h : i < s.size) (h59 : ¬ bt s (i : Int) = 59) : stopAt s i = stopAt s (i + 1) ∧ (0 ≤ semi (tailOf s i) ↔ 0 ≤ semi (tailOf s (i + 1))) := by
  have hb : ¬ s[i] = 59 := by
    intro e
    apply h59
    rw [bt_get s i h, e]
    rfl
  have e : semi (tailOf s i) = if semi (tailOf s (i + 1)) < 0 then -1 else semi (tailOf s (i + 1)) + 1 := by
    unfold semi
    rw [tail_cons s i h]
    have hge := Lib.indexByte_ge (tailOf s (i + 1)).data.toList 59
    simp [Lib.indexByte, hb]
    split <;> split <;> omega
  unfold stopAt
  rw [e]
  split
  · rw [if_neg (by omega), if_neg (by omega)]
    exact ⟨rfl, by omega⟩
  · rw [if_pos (by omega), if_pos (by omega)]
    exact ⟨by omega, by omega⟩
end Go.Proofs.YtmamaijiphdggaaDoor.Math
