/- What the reference's Meets computes, in plain words. -/
import Derived.Test.YtbdaledkkbkhgaaPGlobx8
import Derived.Test.YtbdaledkkbkhgaaGlobMeets
import Derived.Test.YtbdaledkkbkhgaaMeetBack
namespace Go.Proofs.Ytbdaledkkbkhgaa.GlobPure
set_option linter.unusedVariables false
set_option linter.unusedSimpArgs false
open Go.RowKit Go.Proofs.Ytbdaledkkbkhgaa.PGlob Go.Proofs.YtbdaledkkbkhgaaW.PrintWords Go.Proofs.YtbdaledkkbkhgaaW.PrintLast Go.Proofs.Ytbdaledkkbkhgaa.GlobMath

/-- One place of a row: from place m on, the place ahead of it, with the row's place m told. -/
theorem refMeets_step (a b : ByteArray) (ha : a.size ≤ 4000) (hb : b.size ≤ 4000) (i m : Nat) (hi : i ≤ a.size) (hm : m ≤ b.size) (row x : List Bool) (hrow : row.length = b.size + 1) (hx : x.length = b.size + 1)
    (h1 : i < a.size → ∀ k, k ≤ b.size → (tr row k ↔ TailMeet a.data.toList b.data.toList (i + 1) k))
    (h2 : ∀ k, m < k → k ≤ b.size → (tr x k ↔ TailMeet a.data.toList b.data.toList i k)) (h3 : ¬ tr x m) :
    ∃ x' : List Bool, x'.length = b.size + 1 ∧ (∀ k, k ≠ m → (tr x' k ↔ tr x k)) ∧ (tr x' m ↔ TailMeet a.data.toList b.data.toList i m) ∧
      ∀ r, Ev (fun k => secateurref21_Meets.l1 k a b row i x' ((m : Int) - 1)) r → Ev (fun k => secateurref21_Meets.l1 k a b row i x m) r := by
  have la := len_of a
  have lb := len_of b
  have fx : ∀ v : Bool, ∀ k, k ≠ m → (tr (x.set m v) k ↔ tr x k) := by
    intro v k hk
    rw [tr_set x m k v (by omega)]
    have : m ≠ k := fun e => hk e.symm
    simp [this]
  have fm : ∀ v : Bool, tr (x.set m v) m ↔ v = true := by
    intro v
    rw [tr_set x m m v (by omega)]
    simp
  have w1 : wrap64 ((m : Int) - 1) = (m : Int) - 1 := wrap_of (by omega) (by omega)
  have w2 : wrap64 ((m : Int) + 1) = ((m + 1 : Nat) : Int) := by rw [wrap_of (by omega) (by omega)]; rfl
  -- the way to the first joint
  have in1 : ∀ (f : Bool), f = decide (i = a.size ∧ m = b.size) → ∀ r, Ev (fun k => secateurref21_Meets.j2 k a b row i x m f) r → Ev (fun k => secateurref21_Meets.l1 k a b row i x m) r := by
    intro f hf r h
    refine Ev.step (fun k => ?_) h
    simp only [secateurref21_Meets.l1]
    rw [if_pos (by omega)]
    by_cases e : i = a.size
    · rw [if_pos (by omega), beq_dec, hf]
      congr 1
      exact decide_eq_decide.2 ⟨fun h => ⟨e, by omega⟩, fun h => by omega⟩
    · rw [if_neg (by omega), hf, decide_eq_false (fun h => e h.1)]
  by_cases he : i = a.size ∧ m = b.size
  · -- both are at their ends
    refine ⟨x.set m true, by simpa using hx, fx true, ?_, fun r h => in1 true (by simp [he]) r ?_⟩
    · rw [fm]
      obtain ⟨e1, e2⟩ := he
      rw [e1, e2, ← la, ← lb]
      simp only [true_iff]
      exact TailMeet_end _ _
    · refine Ev.step (fun k => ?_) h
      simp only [secateurref21_Meets.j2]
      rw [if_pos trivial, if_pos (by omega), if_pos (by omega), w1]
      rfl
  have in2 : ∀ (f : Bool), f = decide (i < a.size ∧ a.data.toList.getD i 0 = 42) → ∀ r, Ev (fun k => secateurref21_Meets.j3 k a b row i x m f) r → Ev (fun k => secateurref21_Meets.l1 k a b row i x m) r := by
    intro f hf r h
    refine in1 false (by simp [he]) r (Ev.step (fun k => ?_) h)
    simp only [secateurref21_Meets.j2]
    rw [if_neg (by simp)]
    by_cases e : i < a.size
    · rw [if_pos (by omega), if_pos (by omega), bt_getD, beq_dec, hf]
      congr 1
      exact decide_eq_decide.2 ⟨fun h => ⟨e, (u8_42 _).1 h⟩, fun h => (u8_42 _).2 h.2⟩
    · rw [if_neg (by omega), hf, decide_eq_false (fun h => e h.1)]
  by_cases hs : i < a.size ∧ a.data.toList.getD i 0 = 42
  · -- a star of a
    have hs1 := hs.1
    have hs2 := hs.2
    have hL := TailMeet_star a.data.toList b.data.toList i m (by omega) hs2
    rw [lb] at hL
    by_cases hr : row.getD m false = true
    · refine ⟨x.set m true, by simpa using hx, fx true, ?_, fun r h => in2 true (by rw [eq_comm]; exact decide_eq_true hs) r ?_⟩
      · rw [fm, hL, ← h1 hs1 m hm]
        simp only [true_iff]
        exact .inl hr
      · refine Ev.step (fun k => ?_) h
        simp only [secateurref21_Meets.j3]
        rw [if_pos trivial, if_pos (by omega), if_pos (by omega), rdOf_nat, if_pos hr, if_pos (by omega), w1]
        rfl
    · by_cases hk : m < b.size
      · refine ⟨x.set m (x.getD (m + 1) false), by simpa using hx, fx _, ?_, fun r h => in2 true (by rw [eq_comm]; exact decide_eq_true hs) r ?_⟩
        · rw [fm, hL, ← h1 hs1 m hm, ← h2 (m + 1) (by omega) (by omega)]
          have : ¬ tr row m := hr
          simp only [this, false_or, hk, true_and]
          rfl
        · refine Ev.step (fun k => ?_) h
          simp only [secateurref21_Meets.j3]
          rw [if_pos trivial, if_pos (by omega), if_pos (by omega), rdOf_nat, if_neg hr, if_pos (by omega), w2, if_pos (by omega), if_pos (by omega), if_pos (by omega), w1, rdOf_nat]
          rfl
      · refine ⟨x.set m false, by simpa using hx, fx _, ?_, fun r h => in2 true (by rw [eq_comm]; exact decide_eq_true hs) r ?_⟩
        · rw [fm, hL, ← h1 hs1 m hm]
          have : ¬ tr row m := hr
          simp [this, hk]
        · refine Ev.step (fun k => ?_) h
          simp only [secateurref21_Meets.j3]
          rw [if_pos trivial, if_pos (by omega), if_pos (by omega), rdOf_nat, if_neg hr, if_neg (by omega), if_pos (by omega), w1]
          rfl
  have in3 : ∀ (f : Bool), f = decide (m < b.size ∧ b.data.toList.getD m 0 = 42) → ∀ r, Ev (fun k => secateurref21_Meets.j4 k a b row i x m f) r → Ev (fun k => secateurref21_Meets.l1 k a b row i x m) r := by
    intro f hf r h
    refine in2 false (by rw [eq_comm]; exact decide_eq_false hs) r (Ev.step (fun k => ?_) h)
    simp only [secateurref21_Meets.j3]
    rw [if_neg (by simp)]
    by_cases e : m < b.size
    · rw [if_pos (by omega), if_pos (by omega), bt_getD, beq_dec, hf]
      congr 1
      exact decide_eq_decide.2 ⟨fun h => ⟨e, (u8_42 _).1 h⟩, fun h => (u8_42 _).2 h.2⟩
    · rw [if_neg (by omega), hf, decide_eq_false (fun h => e h.1)]
  by_cases ht : m < b.size ∧ b.data.toList.getD m 0 = 42
  · -- a star of b
    obtain ⟨ht1, ht2⟩ := ht
    have hL := TailMeet_star2 a.data.toList b.data.toList i m (by omega) ht2
    rw [la] at hL
    have hT : (true : Bool) = decide (m < b.size ∧ b.data.toList.getD m 0 = 42) := by rw [eq_comm]; exact decide_eq_true ⟨ht1, ht2⟩
    by_cases hr : x.getD (m + 1) false = true
    · refine ⟨x.set m true, by simpa using hx, fx true, ?_, fun r h => in3 true hT r ?_⟩
      · rw [fm, hL, ← h2 (m + 1) (by omega) (by omega)]
        simp only [true_iff]
        exact .inl hr
      · refine Ev.step (fun k => ?_) h
        simp only [secateurref21_Meets.j4]
        rw [if_pos trivial, w2, if_pos (by omega), if_pos (by omega), rdOf_nat, if_pos hr, if_pos (by omega), if_pos (by omega), w1]
        rfl
    · have hr' : ¬ tr x (m + 1) := hr
      by_cases hk : i < a.size
      · refine ⟨x.set m (row.getD m false), by simpa using hx, fx _, ?_, fun r h => in3 true hT r ?_⟩
        · rw [fm, hL, ← h1 hk m hm, ← h2 (m + 1) (by omega) (by omega)]
          simp only [hr', false_or, hk, true_and]
          rfl
        · refine Ev.step (fun k => ?_) h
          simp only [secateurref21_Meets.j4]
          rw [if_pos trivial, w2, if_pos (by omega), if_pos (by omega), rdOf_nat, if_neg hr, if_pos (by omega), if_pos (by omega), if_pos (by omega), if_pos (by omega), w1, rdOf_nat]
          rfl
      · refine ⟨x.set m false, by simpa using hx, fx _, ?_, fun r h => in3 true hT r ?_⟩
        · rw [fm, hL, ← h2 (m + 1) (by omega) (by omega)]
          simp [hr', hk]
        · refine Ev.step (fun k => ?_) h
          simp only [secateurref21_Meets.j4]
          rw [if_pos trivial, w2, if_pos (by omega), if_pos (by omega), rdOf_nat, if_neg hr, if_neg (by omega), if_pos (by omega), if_pos (by omega), w1]
          rfl
  have hF : (false : Bool) = decide (m < b.size ∧ b.data.toList.getD m 0 = 42) := by rw [eq_comm]; exact decide_eq_false ht
  have n1 : i < a.size → a.data.toList.getD i 0 ≠ 42 := fun h e => hs ⟨h, e⟩
  have n2 : m < b.size → b.data.toList.getD m 0 ≠ 42 := fun h e => ht ⟨h, e⟩
  by_cases hone : i < a.size ∧ m < b.size
  · obtain ⟨o1, o2⟩ := hone
    have hL := TailMeet_one a.data.toList b.data.toList i m (by omega) (by omega) (n1 o1) (n2 o2)
    by_cases hf : a.data.toList.getD i 0 = 63 ∨ b.data.toList.getD m 0 = 63 ∨ a.data.toList.getD i 0 = b.data.toList.getD m 0
    · refine ⟨x.set m (row.getD (m + 1) false), by simpa using hx, fx _, ?_, fun r h => in3 false hF r ?_⟩
      · rw [fm, hL, ← h1 o1 (m + 1) (by omega)]
        simp only [hf, true_and]
        rfl
      · refine Ev.step (fun k => ?_) h
        simp only [secateurref21_Meets.j4]
        rw [if_neg (by simp), if_pos (by omega), if_pos (by omega), if_pos (by omega), bt_getD, bt_getD, w2, w1, rdOf_nat]
        by_cases h63 : a.data.toList.getD i 0 = 63
        · rw [if_pos ((u8_63 _).2 h63), if_pos (by omega), if_pos (by omega), if_pos (by omega), if_pos (by omega)]
          rfl
        · rw [if_neg (fun e => h63 ((u8_63 _).1 e)), if_pos (by omega)]
          by_cases h64 : b.data.toList.getD m 0 = 63
          · rw [if_pos ((u8_63 _).2 h64), if_pos (by omega), if_pos (by omega), if_pos (by omega)]
            rfl
          · rw [if_neg (fun e => h64 ((u8_63 _).1 e)), if_pos ((u8_eq _ _).2 ((hf.resolve_left h63).resolve_left h64)), if_pos (by omega), if_pos (by omega), if_pos (by omega)]
            rfl
    · refine ⟨x, hx, fun _ _ => Iff.rfl, ?_, fun r h => in3 false hF r (Ev.step (fun k => ?_) h)⟩
      · rw [hL]
        simp only [hf, false_and, iff_false]
        exact h3
      · simp only [secateurref21_Meets.j4]
        rw [if_neg (by simp), if_pos (by omega), if_pos (by omega), if_pos (by omega), bt_getD, bt_getD, w1, if_neg (fun e => hf (.inl ((u8_63 _).1 e))), if_pos (by omega), if_neg (fun e => hf (.inr (.inl ((u8_63 _).1 e)))),
          if_neg (fun e => hf (.inr (.inr ((u8_eq _ _).1 e))))]
  · refine ⟨x, hx, fun _ _ => Iff.rfl, ?_, fun r h => in3 false hF r (Ev.step (fun k => ?_) h)⟩
    · have := TailMeet_no a.data.toList b.data.toList i m (by omega) (by omega) (by rw [la, lb]; exact hone) (by rw [la, lb]; exact he) (fun h => n1 (by omega)) (fun h => n2 (by omega))
      simp only [this, iff_false]
      exact h3
    · simp only [secateurref21_Meets.j4]
      rw [if_neg (by simp), w1]
      by_cases o1 : i < a.size
      · rw [if_pos (by omega), if_neg (by omega)]
      · rw [if_neg (by omega)]

theorem refMeets_l1 (a b : ByteArray) (ha : a.size ≤ 4000) (hb : b.size ≤ 4000) (i : Nat) (hi : i ≤ a.size) (row : List Bool) (hrow : row.length = b.size + 1)
    (h1 : i < a.size → ∀ k, k ≤ b.size → (tr row k ↔ TailMeet a.data.toList b.data.toList (i + 1) k)) (m : Nat) : ∀ (x : List Bool), m ≤ b.size + 1 → x.length = b.size + 1 →
    (∀ k, m ≤ k → k ≤ b.size → (tr x k ↔ TailMeet a.data.toList b.data.toList i k)) → (∀ k, k < m → ¬ tr x k) →
    ∃ x' : List Bool, x'.length = b.size + 1 ∧ (∀ k, k ≤ b.size → (tr x' k ↔ TailMeet a.data.toList b.data.toList i k)) ∧
      ∀ r, Ev (fun k => secateurref21_Meets.l0 k a b x' ((i : Int) - 1)) r → Ev (fun k => secateurref21_Meets.l1 k a b row i x ((m : Int) - 1)) r := by
  induction m with
  | zero =>
    intro x hm hx h2 _
    refine ⟨x, hx, fun k hk => h2 k (Nat.zero_le _) hk, fun r h => Ev.step (fun k => ?_) h⟩
    simp only [secateurref21_Meets.l1]
    rw [if_neg (by omega), wrap_of (by omega) (by omega)]
  | succ m ih =>
    intro x hm hx h2 h3
    obtain ⟨x', hx', e1, e2, e3⟩ := refMeets_step a b ha hb i m hi (by omega) row x hrow hx h1 (fun k hk hk2 => h2 k hk hk2) (h3 m (by omega))
    obtain ⟨x2, hx2, e4, e5⟩ := ih x' (by omega) hx' (fun k hk hk2 => by
      rcases Nat.lt_or_ge m k with h | h
      · rw [e1 k (by omega)]; exact h2 k h hk2
      · obtain rfl : k = m := by omega
        exact e2) (fun k hk => by rw [e1 k (by omega)]; exact h3 k (by omega))
    refine ⟨x2, hx2, e4, fun r h => ?_⟩
    have := e3 r (e5 r h)
    rw [show (((m + 1 : Nat) : Int) - 1) = (m : Int) from by omega]
    exact this

theorem refMeets_l0 (a b : ByteArray) (ha : a.size ≤ 4000) (hb : b.size ≤ 4000) (i : Nat) : ∀ (row : List Bool), i ≤ a.size + 1 → row.length = b.size + 1 →
    (i ≤ a.size → ∀ k, k ≤ b.size → (tr row k ↔ TailMeet a.data.toList b.data.toList i k)) → (0 < i ∨ i ≤ a.size) →
    Ev (fun k => secateurref21_Meets.l0 k a b row ((i : Int) - 1)) (MeetB a.data.toList b.data.toList) := by
  induction i with
  | zero =>
    intro row hi hr h1 _
    have e : row.getD 0 false = MeetB a.data.toList b.data.toList := by
      rw [Bool.eq_iff_iff, MeetB_iff]
      exact h1 (Nat.zero_le _) 0 (Nat.zero_le _)
    refine Ev.step (f := fun _ => some (row.getD 0 false)) (fun k => ?_) (by rw [e]; exact Ev.now _)
    simp only [secateurref21_Meets.l0]
    rw [if_neg (by omega), if_pos (by omega)]
    rfl
  | succ i ih =>
    intro row hi hr h1 _
    have nt : ∀ k, ¬ tr (List.replicate (b.size + 1) false) k := by
      intro k
      unfold tr
      rw [List.getD_eq_getElem?_getD, List.getElem?_replicate]
      split <;> simp
    obtain ⟨x, hx, e1, e2⟩ := refMeets_l1 a b ha hb i (by omega) row hr (fun h => h1 (by omega)) (b.size + 1) (List.replicate (b.size + 1) false) (Nat.le_refl _) (by simp) (fun k hk hk2 => by omega) (fun k _ => nt k)
    have h := e2 _ (ih x (by omega) hx (fun _ => e1) (.inr (by omega)))
    rw [show (((i + 1 : Nat) : Int) - 1) = (i : Int) from by omega]
    refine Ev.step (fun k => ?_) h
    simp only [secateurref21_Meets.l0]
    have w2 : wrap64 ((b.size : Int) + 1) = ((b.size + 1 : Nat) : Int) := by rw [wrap_of (by omega) (by omega)]; rfl
    rw [if_pos (by omega), w2, if_pos (by omega), if_pos (by omega), show (((b.size + 1 : Nat) : Int) - 1) = (b.size : Int) from by omega]
    rfl

theorem refMeets_ev (a b : ByteArray) (ha : a.size ≤ 4000) (hb : b.size ≤ 4000) : Ev (fun k => secateurref21_Meets.f k a b) (MeetB a.data.toList b.data.toList) := by
  have h := refMeets_l0 a b ha hb (a.size + 1) (List.replicate (b.size + 1) false) (Nat.le_refl _) (by simp) (fun h => by omega) (.inl (by omega))
  refine Ev.congr (fun k => ?_) h
  unfold secateurref21_Meets.f
  have w2 : wrap64 ((b.size : Int) + 1) = ((b.size + 1 : Nat) : Int) := by rw [wrap_of (by omega) (by omega)]; rfl
  rw [w2, if_pos (by omega), if_pos (by omega), show (((a.size + 1 : Nat) : Int) - 1) = (a.size : Int) from by omega]
  rfl
end Go.Proofs.Ytbdaledkkbkhgaa.GlobPure
