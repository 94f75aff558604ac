/- A region may be cut in two: what holds between the halves. -/
import Derived.Test.YtmamaijiphdggaaDoorRefHas
namespace Go.Proofs.YtmamaijiphdggaaDoor.Given
set_option linter.unusedVariables false
set_option linter.unusedSimpArgs false
open Go.RowKit Go.Lib
variable {P : Program} {ops : Array Oper} {Q : Exit → Act → World → Prop}
theorem letsOut_then {K : Act → World → Prop} (h : LetsOut (Exit.then K Q)) : LetsOut Q := h
theorem wp_then {o : Oper} {a : Act} {w : World} {next K : Act → World → Prop} (h : o.wp P a w next (Exit.then K Q)) : o.wp P a w next Q := by
  unfold Oper.wp at *
  generalize (execOp a.eval o).run P w = r at *
  cases r with
  | ok n w' => cases n <;> exact h
  | halt hh w' => cases hh <;> exact h
theorem wpList_split {l2 : List Oper} : ∀ (l1 : List Oper) (a : Act) (w : World), wpList P ops (Exit.then (wpList P ops Q l2) Q) l1 a w → wpList P ops Q (l1 ++ l2) a w
  | [], a, w, h => h
  | o :: l1, a, w, h => by
    simp only [wpList, List.cons_append] at h ⊢
    split at h
    · rename_i hw
      rw [if_pos hw]
      rcases h with h | ⟨h1, h2⟩
      · exact .inl (Oper.wp_mono (fun a w h => wpList_split l1 a w h) (wp_then h))
      · exact .inr ⟨h1, letsOut_then h2⟩
    · rename_i hw
      rw [if_neg hw]
      exact wpList_split l1 _ w h
theorem wpList_cut {l : List Oper} {a : Act} {w : World} (j : Nat) (h : wpList P ops (Exit.then (wpList P ops Q (l.drop j)) Q) (l.take j) a w) : wpList P ops Q l a w := by
  have := wpList_split (l2 := l.drop j) (l.take j) a w h
  rwa [List.take_append_drop] at this
theorem wp_region_cut {id : Nat} {l : List Oper} {a : Act} {w : World} (j : Nat) (h : wpList P l.toArray (Exit.then (wpList P l.toArray Q (l.drop j)) Q) (l.take j) a w) : (Code.region id l.toArray false).wp P Q a w :=
  wp_region_lit (wpList_cut j h)
/-- Between the halves: a relation. -/
theorem wpList_meet {l : List Oper} {a : Act} {w : World} (R : Act → World → Prop) (j : Nat) (hR : ∀ a w, R a w → wpList P ops Q (l.drop j) a w) (h : wpList P ops (Exit.then R Q) (l.take j) a w) : wpList P ops Q l a w := by
  refine wpList_cut j ?_
  have mono : ∀ (l1 : List Oper) (a : Act) (w : World), wpList P ops (Exit.then R Q) l1 a w → wpList P ops (Exit.then (wpList P ops Q (l.drop j)) Q) l1 a w := by
    intro l1
    induction l1 with
    | nil => exact fun a w h => hR a w h
    | cons o l1 ih =>
      intro a w h
      simp only [wpList] at h ⊢
      split at h
      · rename_i hw
        rw [if_pos hw]
        rcases h with h | ⟨h1, h2⟩
        · refine .inl ?_
          have h3 := Oper.wp_mono (fun a w h => ih a w h) h
          unfold Oper.wp at *
          generalize (execOp a.eval o).run P w = r at *
          cases r with
          | ok n w' => cases n <;> exact h3
          | halt hh w' => cases hh <;> exact h3
        · exact .inr ⟨h1, h2⟩
      · rename_i hw
        rw [if_neg hw]
        exact ih _ w h
  exact mono _ _ _ h
end Go.Proofs.YtmamaijiphdggaaDoor.Given
