/- What the reference's Match, Right, Plain, Least and Among compute, in plain words. -/
import Derived.Test.YtbdaledkkbkhgaaPGlobx5
import Derived.Test.YtbdaledkkbkhgaaPGlobx4
import Derived.Test.YtbdaledkkbkhgaaGlobPlain0
import Derived.Test.YtbdaledkkbkhgaaGlobMeets
namespace Go.Proofs.Ytbdaledkkbkhgaa.GlobPure
set_option linter.unusedVariables false
set_option linter.unusedSimpArgs false
open Go.RowKit Go.Proofs.Ytbdaledkkbkhgaa.PGlob Go.Proofs.YtbdaledkkbkhgaaW.PrintWords Go.Proofs.YtbdaledkkbkhgaaW.PrintLast Go.Proofs.Ytbdaledkkbkhgaa.GlobMath

/-- Beginnings: pattern up to i, text up to k. -/
def HeadMt (P S : List UInt8) (i k : Nat) : Prop := Mt (P.take i) (S.take k)
theorem HeadMt_zero (P S : List UInt8) (k : Nat) (hk : k ≤ S.length) : HeadMt P S 0 k ↔ k = 0 := by
  unfold HeadMt
  rw [List.take_zero, Mt_nil, List.take_eq_nil_iff]
  constructor
  · rintro (h | h)
    · exact h
    · rw [h] at hk; simpa using hk
  · intro h; exact .inl h
theorem HeadMt_star (P S : List UInt8) (i k : Nat) (h : P.getD i 0 = 42) (hk : k ≤ S.length) : HeadMt P S (i + 1) k ↔ HeadMt P S i k ∨ ∃ j, k = j + 1 ∧ HeadMt P S (i + 1) j := by
  have key : ∀ k, k ≤ S.length → (HeadMt P S (i + 1) k ↔ ∃ m, m ≤ k ∧ HeadMt P S i m) := by
    intro k hk
    unfold HeadMt
    rw [Mt_take_star h]
    constructor
    · rintro ⟨u, v, e, hu⟩
      have hl : u.length ≤ k := by
        have := congrArg List.length e
        rw [List.length_take, List.length_append] at this
        omega
      refine ⟨u.length, hl, ?_⟩
      have e2 : S.take u.length = u := by
        have : (S.take k).take u.length = u := by rw [e, List.take_left]
        rwa [List.take_take, Nat.min_eq_left hl] at this
      rw [e2]; exact hu
    · rintro ⟨m, hm, h⟩
      refine ⟨S.take m, (S.take k).drop m, ?_, h⟩
      have : S.take m = (S.take k).take m := by rw [List.take_take, Nat.min_eq_left hm]
      rw [this, List.take_append_drop]
  rw [key k hk]
  constructor
  · rintro ⟨m, hm, h⟩
    rcases Nat.lt_or_ge m k with h2 | h2
    · exact .inr ⟨k - 1, by omega, (key (k - 1) (by omega)).2 ⟨m, by omega, h⟩⟩
    · obtain rfl : m = k := by omega
      exact .inl h
  · rintro (h | ⟨j, e, h⟩)
    · exact ⟨k, Nat.le_refl _, h⟩
    · obtain ⟨m, hm, h2⟩ := (key j (by omega)).1 h
      exact ⟨m, by omega, h2⟩
theorem HeadMt_one (P S : List UInt8) (i k : Nat) (hi : i < P.length) (h : P.getD i 0 ≠ 42) (hk : k ≤ S.length) : HeadMt P S (i + 1) k ↔ ∃ j, k = j + 1 ∧ (P.getD i 0 = 63 ∨ P.getD i 0 = S.getD j 0) ∧ HeadMt P S i j := by
  unfold HeadMt
  rw [take_succ_getD P i hi, Mt_snoc]
  constructor
  · rintro ⟨u, v, e, hu, hv⟩
    obtain ⟨d, rfl, hd⟩ := (Acc_one h v).1 hv
    cases k with
    | zero => simp at e
    | succ j =>
      rw [take_succ_getD S j (by omega)] at e
      obtain ⟨e1, e2⟩ := List.append_inj' e rfl
      injection e2 with e2
      exact ⟨j, rfl, by rw [e2]; exact hd, by rw [e1]; exact hu⟩
  · rintro ⟨j, rfl, hd, hm⟩
    exact ⟨S.take j, [S.getD j 0], take_succ_getD S j (by omega), hm, (Acc_one h _).2 ⟨_, rfl, hd⟩⟩

theorem refMatch_step (p s : ByteArray) (hp : p.size ≤ 4000) (hs : s.size ≤ 4000) (i m : Nat) (hi : i < p.size) (hm : m ≤ s.size) (row x : List Bool) (hrow : row.length = s.size + 1) (hx : x.length = s.size + 1)
    (h1 : ∀ k, k ≤ s.size → (tr row k ↔ HeadMt p.data.toList s.data.toList i k))
    (h2 : ∀ k, k < m → (tr x k ↔ HeadMt p.data.toList s.data.toList (i + 1) k)) (h3 : ¬ tr x m) :
    ∃ x' : List Bool, x'.length = s.size + 1 ∧ (∀ k, k ≠ m → (tr x' k ↔ tr x k)) ∧ (tr x' m ↔ HeadMt p.data.toList s.data.toList (i + 1) m) ∧
      ∀ r, Ev (fun k => secateurref21_Match.l1 k p s row i x' ((m + 1 : Nat) : Int)) r → Ev (fun k => secateurref21_Match.l1 k p s row i x m) r := by
  have lp := len_of p
  have ls := len_of s
  have fx : ∀ v : Bool, ∀ k, k ≠ m → (tr (x.set m v) k ↔ tr x k) := by
    intro v k hk
    rw [tr_set x m k v (by omega)]
    have : m ≠ k := fun e => hk e.symm
    simp [this]
  have fm : ∀ v : Bool, tr (x.set m v) m ↔ v = true := by
    intro v
    rw [tr_set x m m v (by omega)]
    simp
  have w2 : wrap64 ((m : Int) + 1) = ((m + 1 : Nat) : Int) := by rw [wrap_of (by omega) (by omega)]; rfl
  by_cases hc : p.data.toList.getD i 0 = 42
  · have hL := HeadMt_star p.data.toList s.data.toList i m hc (by omega)
    by_cases hr : row.getD m false = true
    · refine ⟨x.set m true, by simpa using hx, fx true, ?_, fun r h => Ev.step (fun k => ?_) h⟩
      · rw [fm, hL, ← h1 m hm]; simp only [true_iff]; exact .inl hr
      · simp only [secateurref21_Match.l1]
        rw [if_pos (by omega), if_pos (by omega), if_pos (by omega), bt_getD, if_pos ((u8_42 _).2 hc), if_pos (by omega), if_pos (by omega), rdOf_nat, if_pos hr, if_pos (by omega), w2]
        rfl
    · have hr' : ¬ tr row m := hr
      by_cases h0 : 0 < m
      · obtain ⟨j, rfl⟩ : ∃ j, m = j + 1 := ⟨m - 1, by omega⟩
        have w1 : wrap64 (((j + 1 : Nat) : Int) - 1) = (j : Int) := by rw [wrap_of (by omega) (by omega)]; omega
        refine ⟨x.set (j + 1) (x.getD j false), by simpa using hx, fx _, ?_, fun r h => Ev.step (fun k => ?_) h⟩
        · rw [fm, hL, ← h1 _ hm]
          simp only [hr', false_or]
          have := h2 j (by omega)
          constructor
          · intro h; exact ⟨j, rfl, this.1 h⟩
          · rintro ⟨j', e, h⟩
            obtain rfl : j = j' := by omega
            exact this.2 h
        · simp only [secateurref21_Match.l1]
          rw [if_pos (by omega), if_pos (by omega), if_pos (by omega), bt_getD, if_pos ((u8_42 _).2 hc), if_pos (by omega), if_pos (by omega), rdOf_nat, if_neg hr, if_pos (by omega), w1, if_pos (by omega), if_pos (by omega), if_pos (by omega), w2, rdOf_nat]
          rfl
      · obtain rfl : m = 0 := by omega
        refine ⟨x.set 0 false, by simpa using hx, fx _, ?_, fun r h => Ev.step (fun k => ?_) h⟩
        · rw [fm, hL, ← h1 _ hm]
          simp [hr']
        · simp only [secateurref21_Match.l1]
          rw [if_pos (by omega), if_pos (by omega), if_pos (by omega), bt_getD, if_pos ((u8_42 _).2 hc), if_pos (by omega), if_pos (by omega), rdOf_nat, if_neg hr, if_neg (by omega), if_pos (by omega), w2]
          rfl
  · have hL := HeadMt_one p.data.toList s.data.toList i m (by omega) hc (by omega)
    by_cases h0 : 0 < m
    · obtain ⟨j, rfl⟩ : ∃ j, m = j + 1 := ⟨m - 1, by omega⟩
      have w1 : wrap64 (((j + 1 : Nat) : Int) - 1) = (j : Int) := by rw [wrap_of (by omega) (by omega)]; omega
      have hL2 : HeadMt p.data.toList s.data.toList (i + 1) (j + 1) ↔ (p.data.toList.getD i 0 = 63 ∨ p.data.toList.getD i 0 = s.data.toList.getD j 0) ∧ HeadMt p.data.toList s.data.toList i j := by
        rw [hL]
        constructor
        · rintro ⟨j', e, h⟩
          obtain rfl : j = j' := by omega
          exact h
        · intro h; exact ⟨j, rfl, h⟩
      by_cases hf : p.data.toList.getD i 0 = 63 ∨ p.data.toList.getD i 0 = s.data.toList.getD j 0
      · refine ⟨x.set (j + 1) (row.getD j false), by simpa using hx, fx _, ?_, fun r h => Ev.step (fun k => ?_) h⟩
        · rw [fm, hL2, ← h1 j (by omega)]
          simp only [hf, true_and]
          rfl
        · simp only [secateurref21_Match.l1]
          rw [if_pos (by omega), if_pos (by omega), if_pos (by omega), bt_getD, if_neg (fun e => hc ((u8_42 _).1 e)), if_pos (by omega), w1, w2, rdOf_nat]
          by_cases h63 : p.data.toList.getD i 0 = 63
          · rw [if_pos ((u8_63 _).2 h63), if_pos (by omega), if_pos (by omega), if_pos (by omega), if_pos (by omega)]
            rfl
          · rw [if_neg (fun e => h63 ((u8_63 _).1 e)), if_pos (by omega), if_pos (by omega), bt_getD, if_pos ((u8_eq _ _).2 (hf.resolve_left h63)), if_pos (by omega), if_pos (by omega), if_pos (by omega)]
            rfl
      · refine ⟨x, hx, fun _ _ => Iff.rfl, ?_, fun r h => Ev.step (fun k => ?_) h⟩
        · rw [hL2]; simp only [hf, false_and, iff_false]; exact h3
        · simp only [secateurref21_Match.l1]
          rw [if_pos (by omega), if_pos (by omega), if_pos (by omega), bt_getD, if_neg (fun e => hc ((u8_42 _).1 e)), if_pos (by omega), w1, w2, if_neg (fun e => hf (.inl ((u8_63 _).1 e))), if_pos (by omega), if_pos (by omega), bt_getD,
            if_neg (fun e => hf (.inr ((u8_eq _ _).1 e)))]
    · obtain rfl : m = 0 := by omega
      refine ⟨x, hx, fun _ _ => Iff.rfl, ?_, fun r h => Ev.step (fun k => ?_) h⟩
      · rw [hL]
        constructor
        · intro h; exact absurd h h3
        · rintro ⟨j, e, _⟩; cases e
      · simp only [secateurref21_Match.l1]
        rw [if_pos (by omega), if_pos (by omega), if_pos (by omega), bt_getD, if_neg (fun e => hc ((u8_42 _).1 e)), if_neg (by omega), w2]

theorem refMatch_l1 (p s : ByteArray) (hp : p.size ≤ 4000) (hs : s.size ≤ 4000) (i : Nat) (hi : i < p.size) (row : List Bool) (hrow : row.length = s.size + 1)
    (h1 : ∀ k, k ≤ s.size → (tr row k ↔ HeadMt p.data.toList s.data.toList i k)) (n : Nat) : ∀ (m : Nat) (x : List Bool), s.size + 1 - m = n → m ≤ s.size + 1 → x.length = s.size + 1 →
    (∀ k, k < m → (tr x k ↔ HeadMt p.data.toList s.data.toList (i + 1) k)) → (∀ k, m ≤ k → ¬ tr x k) →
    ∃ x' : List Bool, x'.length = s.size + 1 ∧ (∀ k, k ≤ s.size → (tr x' k ↔ HeadMt p.data.toList s.data.toList (i + 1) k)) ∧
      ∀ r, Ev (fun k => secateurref21_Match.l0 k p s x' ((i + 1 : Nat) : Int)) r → Ev (fun k => secateurref21_Match.l1 k p s row i x m) r := by
  induction n with
  | zero =>
    intro m x hn hm hx h2 _
    obtain rfl : m = s.size + 1 := by omega
    refine ⟨x, hx, fun k hk => h2 k (by omega), fun r h => Ev.step (fun k => ?_) h⟩
    simp only [secateurref21_Match.l1]
    rw [if_neg (by omega), wrap_of (by omega) (by omega)]
    rfl
  | succ n ih =>
    intro m x hn hm hx h2 h3
    obtain ⟨x', hx', e1, e2, e3⟩ := refMatch_step p s hp hs i m hi (by omega) row x hrow hx h1 h2 (h3 m (Nat.le_refl _))
    obtain ⟨x2, hx2, e4, e5⟩ := ih (m + 1) x' (by omega) (by omega) hx' (fun k hk => by
      rcases Nat.lt_or_ge k m with h | h
      · rw [e1 k (by omega)]; exact h2 k h
      · obtain rfl : k = m := by omega
        exact e2) (fun k hk => by rw [e1 k (by omega)]; exact h3 k (by omega))
    exact ⟨x2, hx2, e4, fun r h => e3 r (e5 r h)⟩

theorem nt_replicate (n k : Nat) : ¬ tr (List.replicate n false) k := by
  unfold tr
  rw [List.getD_eq_getElem?_getD, List.getElem?_replicate]
  split <;> simp

theorem refMatch_l0 (p s : ByteArray) (hp : p.size ≤ 4000) (hs : s.size ≤ 4000) (n : Nat) : ∀ (i : Nat) (row : List Bool), p.size - i = n → i ≤ p.size → row.length = s.size + 1 →
    (∀ k, k ≤ s.size → (tr row k ↔ HeadMt p.data.toList s.data.toList i k)) →
    Ev (fun k => secateurref21_Match.l0 k p s row i) (MtB p.data.toList s.data.toList) := by
  have lp := len_of p
  have ls := len_of s
  induction n with
  | zero =>
    intro i row hn hi hr h1
    obtain rfl : i = p.size := by omega
    have e : row.getD s.size false = MtB p.data.toList s.data.toList := by
      rw [Bool.eq_iff_iff, MtB_iff]
      refine (h1 s.size (Nat.le_refl _)).trans ?_
      unfold HeadMt
      rw [List.take_of_length_le (by omega), List.take_of_length_le (by omega)]
    refine Ev.step (f := fun _ => some (row.getD s.size false)) (fun k => ?_) (by rw [e]; exact Ev.now _)
    simp only [secateurref21_Match.l0]
    rw [if_neg (by omega), if_pos (by omega), if_pos (by omega), rdOf_nat]
  | succ n ih =>
    intro i row hn hi hr h1
    obtain ⟨x, hx, e1, e2⟩ := refMatch_l1 p s hp hs i (by omega) row hr h1 _ 0 (List.replicate (s.size + 1) false) rfl (Nat.zero_le _) (by simp) (fun k hk => by omega) (fun k _ => nt_replicate _ k)
    refine Ev.step (fun k => ?_) (e2 _ (ih (i + 1) x (by omega) (by omega) hx e1))
    simp only [secateurref21_Match.l0]
    have w2 : wrap64 ((s.size : Int) + 1) = ((s.size + 1 : Nat) : Int) := by rw [wrap_of (by omega) (by omega)]; rfl
    rw [if_pos (by omega), w2, if_pos (by omega), if_pos (by omega)]
    rfl

theorem refMatch_ev (p s : ByteArray) (hp : p.size ≤ 4000) (hs : s.size ≤ 4000) : Ev (fun k => secateurref21_Match.f k p s) (MtB p.data.toList s.data.toList) := by
  have ls := len_of s
  have h := refMatch_l0 p s hp hs _ 0 ((List.replicate (s.size + 1) false).set 0 true) rfl (Nat.zero_le _) (by simp) (fun k hk => by
    rw [HeadMt_zero _ _ k (by omega), tr_set _ _ _ _ (by simp)]
    have := nt_replicate (s.size + 1) k
    simp [this, eq_comm])
  refine Ev.congr (fun k => ?_) h
  unfold secateurref21_Match.f
  have w2 : wrap64 ((s.size : Int) + 1) = ((s.size + 1 : Nat) : Int) := by rw [wrap_of (by omega) (by omega)]; rfl
  rw [w2, if_pos (by omega), if_pos (by omega)]
  simp only [Option.bind_some]
  rw [if_pos (by simp)]
  rfl
end Go.Proofs.Ytbdaledkkbkhgaa.GlobPure
