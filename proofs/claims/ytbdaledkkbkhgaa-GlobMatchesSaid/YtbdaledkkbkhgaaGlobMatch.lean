/- What glob.Match computes, in plain words. -/
import Derived.Test.YtbdaledkkbkhgaaPGlobx1
import Derived.Test.YtbdaledkkbkhgaaGlobMath
namespace Go.Proofs.Ytbdaledkkbkhgaa.GlobPure
open Go.RowKit Go.Proofs.Ytbdaledkkbkhgaa.PGlob Go.Proofs.YtbdaledkkbkhgaaW.PrintWords Go.Proofs.YtbdaledkkbkhgaaW.PrintLast Go.Proofs.Ytbdaledkkbkhgaa.GlobMath

open Classical in
/-- Does a pattern stand for a text? -/
noncomputable def MtB (P S : List UInt8) : Bool := decide (Mt P S)
theorem MtB_iff (P S : List UInt8) : MtB P S = true ↔ Mt P S := by simp [MtB]
theorem MtB_eq {P S Q T : List UInt8} (h : Mt P S ↔ Mt Q T) : MtB P S = MtB Q T := by simp [MtB, h]
theorem MtB_true {P S : List UInt8} (h : Mt P S) : MtB P S = true := (MtB_iff P S).2 h
theorem MtB_false {P S : List UInt8} (h : ¬ Mt P S) : MtB P S = false := by simp [MtB, h]

theorem wrap_of {x : Int} (h1 : -9223372036854775808 ≤ x) (h2 : x ≤ 9223372036854775807) : wrap64 x = x := by
  unfold wrap64
  omega
theorem bt_getD (s : ByteArray) (i : Nat) : bt s (i : Int) = ((s.data.toList.getD i 0).toNat : Int) := by
  unfold bt
  simp only [Int.toNat_natCast]
  split
  · rename_i h
    have h2 : i < s.data.toList.length := by simpa using h
    rw [List.getD_eq_getElem?_getD, List.getElem?_eq_getElem h2]
    simp
    rfl
  · rename_i h
    have h2 : s.data.toList.length ≤ i := by simpa using h
    rw [List.getD_eq_getElem?_getD, List.getElem?_eq_none h2]
    simp
theorem len_of (s : ByteArray) : s.data.toList.length = s.size := by simp
theorem u8_eq (a b : UInt8) : ((a.toNat : Int) = (b.toNat : Int)) ↔ a = b := by
  rw [← UInt8.toNat_inj]; omega
theorem u8_42 (a : UInt8) : ((a.toNat : Int) = 42) ↔ a = 42 := u8_eq a 42
theorem u8_63 (a : UInt8) : ((a.toNat : Int) = 63) ↔ a = 63 := u8_eq a 63
theorem beq_dec (a b : Int) : (a == b) = decide (a = b) := by
  by_cases h : a = b <;> simp [h]

/-- The stars at the end. -/
theorem match_l1 (p : ByteArray) (hp : p.size ≤ 9223372036854775806) (n : Nat) : ∀ i : Nat, p.size - i = n → i ≤ p.size →
    Ev (fun k => glob_Match.l1 k p i) (MtB (p.data.toList.drop i) []) := by
  induction n with
  | zero =>
    intro i hn hi
    obtain rfl : i = p.size := by omega
    refine Ev.step (f := fun _ => some true) (fun k => ?_) ?_
    · simp only [glob_Match.l1]; rw [if_neg (by omega)]; simp
    · rw [MtB_true (by rw [List.drop_of_length_le (by rw [len_of]; omega)]; rfl)]
      exact Ev.now _
  | succ n ih =>
    intro i hn hi
    have hlt : i < p.size := by omega
    have hlt' : i < p.data.toList.length := by rw [len_of]; exact hlt
    by_cases hc : p.data.toList.getD i 0 = 42
    · refine Ev.step (f := fun k => glob_Match.l1 k p ((i + 1 : Nat) : Int)) (fun k => ?_) ?_
      · simp only [glob_Match.l1]
        rw [if_pos (by omega), if_pos (by omega), bt_getD, if_pos ((u8_42 _).2 hc), wrap_of (by omega) (by omega)]
        rfl
      · have e : MtB (p.data.toList.drop i) [] = MtB (p.data.toList.drop (i + 1)) [] := by
          apply MtB_eq
          have := Mt_drop_star p.data.toList [] i 0 hlt' hc (by simp)
          simp only [List.drop_nil, List.length_nil] at this
          rw [this]
          constructor
          · rintro ⟨y, _, _, h⟩; exact h
          · intro h; exact ⟨0, Nat.le_refl _, Nat.le_refl _, h⟩
        rw [e]
        exact ih (i + 1) (by omega) (by omega)
    · refine Ev.step (f := fun _ => some false) (fun k => ?_) ?_
      · simp only [glob_Match.l1]
        rw [if_pos (by omega), if_pos (by omega), bt_getD, if_neg (fun h => hc ((u8_42 _).1 h))]
        have : ((i : Int) == (p.size : Int)) = false := beq_eq_false_iff_ne.2 (by omega)
        rw [this]
      · rw [MtB_false]
        · exact Ev.now _
        · intro h
          have := (Mt_drop_one p.data.toList [] i 0 hlt' hc).1 (by simpa using h)
          simp at this

/-- What is known at the loop's head: no star yet, or one. -/
def Known (P S : List UInt8) (i j : Nat) : Option (Nat × Nat) → Prop
  | none => Mt P S ↔ Mt (P.drop i) (S.drop j)
  | some x => Star P S i j x.1 x.2
def starOf : Option (Nat × Nat) → Int
  | none => -1
  | some x => x.1
def measT (n : Nat) : Option (Nat × Nat) → Nat
  | none => n + 1
  | some x => n - x.1
def measB (n : Nat) : Option (Nat × Nat) → Nat
  | none => 0
  | some x => n - x.2

theorem match_l0 (p s : ByteArray) (hp : p.size ≤ 9223372036854775806) (hs : s.size ≤ 9223372036854775806) (i j : Nat) (st : Option (Nat × Nat)) (bk : Nat)
    (hi : i ≤ p.size) (hj : j ≤ s.size) (hst : ∀ x, st = some x → bk = x.2) (hK : Known p.data.toList s.data.toList i j st) :
    Ev (fun k => glob_Match.l0 k p s i (starOf st) bk j) (MtB p.data.toList s.data.toList) := by
  have lp := len_of p
  have ls := len_of s
  by_cases hlt : j < s.size
  · -- a round
    by_cases hstar : i < p.size ∧ p.data.toList.getD i 0 = 42
    · obtain ⟨h1, h2⟩ := hstar
      have hK2 : Mt p.data.toList s.data.toList ↔ Mt (p.data.toList.drop i) (s.data.toList.drop j) := by
        cases st with
        | none => exact hK
        | some x => exact Star.to (t := x.1) (b := x.2) hK (by omega) h2 (by omega)
      have hdec : p.size - i < measT p.size st := by
        cases st with
        | none => simp only [measT]; omega
        | some x => have := Star.hti (t := x.1) (b := x.2) hK; simp only [measT]; omega
      have ih := match_l0 p s hp hs (i + 1) j (some (i, j)) j (by omega) hj (fun x e => by cases e; rfl) (Star.new (by omega) h2 (by omega) hK2)
      refine Ev.step (f := fun k => glob_Match.j1 k p s i (starOf st) bk j true) (fun k => ?_) ?_
      · simp only [glob_Match.l0]
        rw [if_pos (by omega), if_pos (by omega), if_pos (by omega), bt_getD, beq_dec, decide_eq_true ((u8_42 _).2 h2)]
      · refine Ev.step (f := fun k => glob_Match.l0 k p s ((i + 1 : Nat) : Int) (starOf (some (i, j))) j j) (fun k => ?_) ih
        simp only [glob_Match.j1]
        rw [if_pos trivial, wrap_of (by omega) (by omega)]
        rfl
    · -- no star stands here
      have e1 : Ev (fun k => glob_Match.j1 k p s i (starOf st) bk j false) (MtB p.data.toList s.data.toList) → Ev (fun k => glob_Match.l0 k p s i (starOf st) bk j) (MtB p.data.toList s.data.toList) := by
        intro h
        refine Ev.step (fun k => ?_) h
        simp only [glob_Match.l0]
        rw [if_pos (by omega)]
        by_cases h1 : i < p.size
        · have h2 : p.data.toList.getD i 0 ≠ 42 := fun e => hstar ⟨h1, e⟩
          rw [if_pos (by omega), if_pos (by omega), bt_getD, beq_dec, decide_eq_false (fun e => h2 ((u8_42 _).1 e))]
        · rw [if_neg (by omega)]
      apply e1
      by_cases hone : i < p.size ∧ (p.data.toList.getD i 0 = 63 ∨ p.data.toList.getD i 0 = s.data.toList.getD j 0)
      · obtain ⟨h1, h3⟩ := hone
        have h2 : p.data.toList.getD i 0 ≠ 42 := fun e => hstar ⟨h1, e⟩
        have hdec : p.size - (i + 1) < p.size - i := by omega
        have ih := match_l0 p s hp hs (i + 1) (j + 1) st bk (by omega) (by omega) hst (by
          cases st with
          | none => show _ ↔ _; rw [show (Mt p.data.toList s.data.toList ↔ _) from hK, Mt_drop_one _ _ i j (by omega) h2]; exact ⟨fun x => x.2.2, fun x => ⟨by omega, h3, x⟩⟩
          | some x => exact Star.one (t := x.1) (b := x.2) hK (by omega) h2 (by omega) h3)
        have e2 : Ev (fun k => glob_Match.j2 k p s i (starOf st) bk j true) (MtB p.data.toList s.data.toList) := by
          refine Ev.step (f := fun k => glob_Match.l0 k p s ((i + 1 : Nat) : Int) (starOf st) bk ((j + 1 : Nat) : Int)) (fun k => ?_) ih
          simp only [glob_Match.j2]
          rw [if_pos trivial, wrap_of (by omega) (by omega), wrap_of (by omega) (by omega)]
          rfl
        refine Ev.step (fun k => ?_) e2
        simp only [glob_Match.j1]
        rw [if_neg (by simp), if_pos (by omega), if_pos (by omega), bt_getD, bt_getD]
        by_cases h63 : p.data.toList.getD i 0 = 63
        · rw [if_pos ((u8_63 _).2 h63)]
        · rw [if_neg (fun e => h63 ((u8_63 _).1 e)), if_pos (by omega), if_pos (by omega), beq_dec, decide_eq_true ((u8_eq _ _).2 (h3.resolve_left h63))]
      · -- it does not go on here
        have hn : ¬ Mt (p.data.toList.drop i) (s.data.toList.drop j) := by
          intro h
          by_cases h1 : i < p.size
          · have h2 : p.data.toList.getD i 0 ≠ 42 := fun e => hstar ⟨h1, e⟩
            exact hone ⟨h1, ((Mt_drop_one _ _ i j (by omega) h2).1 h).2.1⟩
          · have := (Mt_drop_end _ _ i j (by omega)).1 h
            omega
        have e3 : Ev (fun k => glob_Match.j2 k p s i (starOf st) bk j false) (MtB p.data.toList s.data.toList) := by
          rcases hx : st with _ | x
          · rw [hx] at hK
            refine Ev.step (f := fun _ => some false) (fun k => ?_) ?_
            · simp only [glob_Match.j2]
              rw [if_neg (by simp), if_neg (by simp [starOf])]
            · rw [MtB_false (fun h => hn ((show Mt _ _ ↔ _ from hK).1 h))]
              exact Ev.now _
          · have hb := hst x hx
            rw [hx] at hK
            have hS : Star p.data.toList s.data.toList i j x.1 x.2 := hK
            rw [← hb] at hS
            have h4 := hS.hti
            have h5 := hS.hbj
            have hdec : s.size - (bk + 1) < s.size - x.2 := by omega
            have ih := match_l0 p s hp hs (x.1 + 1) (bk + 1) (some (x.1, bk + 1)) (bk + 1) (by omega) (by omega) (fun y e => by cases e; rfl) (hS.back (by omega) hn)
            refine Ev.step (f := fun k => glob_Match.l0 k p s ((x.1 + 1 : Nat) : Int) (starOf (some (x.1, bk + 1))) ((bk + 1 : Nat) : Int) ((bk + 1 : Nat) : Int)) (fun k => ?_) ih
            have es : starOf (some x) = (x.1 : Int) := rfl
            simp only [glob_Match.j2]
            rw [if_neg (by simp), if_pos (by rw [es]; omega), es, wrap_of (by omega) (by omega), wrap_of (by omega) (by omega)]
            rfl
        refine Ev.step (fun k => ?_) e3
        simp only [glob_Match.j1]
        rw [if_neg (by simp)]
        by_cases h1 : i < p.size
        · have h63 : p.data.toList.getD i 0 ≠ 63 := fun e => hone ⟨h1, .inl e⟩
          have h64 : p.data.toList.getD i 0 ≠ s.data.toList.getD j 0 := fun e => hone ⟨h1, .inr e⟩
          rw [if_pos (by omega), if_pos (by omega), bt_getD, bt_getD, if_neg (fun e => h63 ((u8_63 _).1 e)), if_pos (by omega), if_pos (by omega), beq_dec, decide_eq_false (fun e => h64 ((u8_eq _ _).1 e))]
        · rw [if_neg (by omega)]
  · -- the text is at its end
    obtain rfl : j = s.size := by omega
    have e : MtB p.data.toList s.data.toList = MtB (p.data.toList.drop i) [] := by
      have hK2 : Mt p.data.toList s.data.toList ↔ Mt (p.data.toList.drop i) (s.data.toList.drop s.size) := by
        cases st with
        | none => exact hK
        | some x => exact Star.over (t := x.1) (b := x.2) hK (by omega)
      rw [show s.data.toList.drop s.size = [] from List.drop_of_length_le (by omega)] at hK2
      exact MtB_eq hK2
    rw [e]
    refine Ev.step (f := fun k => glob_Match.l1 k p i) (fun k => ?_) (match_l1 p hp _ i rfl hi)
    simp only [glob_Match.l0]
    rw [if_neg (by omega)]
termination_by (measT p.size st, measB s.size st, p.size - i)
decreasing_by
  · exact Prod.Lex.left _ _ (by simpa [measT] using hdec)
  · exact Prod.Lex.right _ (Prod.Lex.right _ hdec)
  · rw [hx]; exact Prod.Lex.right _ (Prod.Lex.left _ _ hdec)

theorem match_ev (p s : ByteArray) (hp : p.size ≤ 9223372036854775806) (hs : s.size ≤ 9223372036854775806) : Ev (fun k => glob_Match.f k p s) (MtB p.data.toList s.data.toList) :=
  match_l0 p s hp hs 0 0 none 0 (Nat.zero_le _) (Nat.zero_le _) (fun _ h => by cases h) (by show _ ↔ _; simp)
end Go.Proofs.Ytbdaledkkbkhgaa.GlobPure
