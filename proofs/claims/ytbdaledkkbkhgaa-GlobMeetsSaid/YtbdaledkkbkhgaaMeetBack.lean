/- Two patterns that match one text, from their ends on. No program in sight. -/
import Derived.Test.YtbdaledkkbkhgaaMeetMath
namespace Go.Proofs.Ytbdaledkkbkhgaa.GlobMath

theorem Mt_star_more (a w t : List UInt8) (h : Mt (42 :: a) t) : Mt (42 :: a) (w ++ t) := by
  rw [Mt_star] at h ⊢
  obtain ⟨u, s, rfl, hs⟩ := h
  exact ⟨w ++ u, s, by simp, hs⟩
theorem Mt_star_tail (a : List UInt8) (d : UInt8) (t : List UInt8) : Mt (42 :: a) (d :: t) ↔ Mt a (d :: t) ∨ Mt (42 :: a) t := by
  rw [Mt_star, Mt_star]
  constructor
  · rintro ⟨u, s, h, hs⟩
    cases u with
    | nil => left; rw [h]; exact hs
    | cons e u =>
      right
      rw [List.cons_append] at h
      injection h with h1 h2
      exact ⟨u, s, h2, hs⟩
  · rintro (h | ⟨u, s, rfl, hs⟩)
    · exact ⟨[], _, rfl, h⟩
    · exact ⟨d :: u, s, rfl, hs⟩
theorem Meet_nil : Meet [] [] := ⟨[], rfl, rfl⟩
theorem Meet_star (a b : List UInt8) : Meet (42 :: a) b ↔ Meet a b ∨ ∃ x b', b = x :: b' ∧ Meet (42 :: a) b' := by
  constructor
  · rintro ⟨t, h1, h2⟩
    induction t with
    | nil =>
      obtain ⟨u, s, h, hs⟩ := (Mt_star a []).1 h1
      obtain ⟨rfl, rfl⟩ := List.append_eq_nil_iff.1 h.symm
      exact .inl ⟨[], hs, h2⟩
    | cons d t ih =>
      rcases (Mt_star_tail a d t).1 h1 with h | h
      · exact .inl ⟨_, h, h2⟩
      · cases b with
        | nil => cases h2
        | cons x b' =>
          by_cases hx : x = 42
          · subst hx
            rcases (Mt_star_tail b' d t).1 h2 with h3 | h3
            · exact .inr ⟨42, b', rfl, d :: t, h1, h3⟩
            · exact ih h h3
          · obtain ⟨e, s, he, _, hs⟩ := (Mt_one hx b' _).1 h2
            injection he with he1 he2
            subst he1 he2
            exact .inr ⟨x, b', rfl, t, h, hs⟩
  · rintro (⟨t, h1, h2⟩ | ⟨x, b', rfl, t, h1, h2⟩)
    · exact ⟨t, (Mt_star _ _).2 ⟨[], t, rfl, h1⟩, h2⟩
    · obtain ⟨w, hw⟩ := Mt_some [x]
      exact ⟨w ++ t, Mt_star_more a w t h1, (Mt_append [x] b' _).2 ⟨w, t, rfl, hw, h2⟩⟩
theorem Meet_one {x y : UInt8} (a b : List UInt8) (hx : x ≠ 42) (hy : y ≠ 42) : Meet (x :: a) (y :: b) ↔ (x = 63 ∨ y = 63 ∨ x = y) ∧ Meet a b := by
  constructor
  · rintro ⟨t, h1, h2⟩
    obtain ⟨d, s, rfl, hd, hs⟩ := (Mt_one hx a t).1 h1
    obtain ⟨e, s', he, hd', hs'⟩ := (Mt_one hy b _).1 h2
    injection he with he1 he2
    subst he1 he2
    refine ⟨?_, s, hs, hs'⟩
    rcases hd with hd | hd
    · exact .inl hd
    · rcases hd' with hd' | hd'
      · exact .inr (.inl hd')
      · exact .inr (.inr (by rw [hd, hd']))
  · rintro ⟨hf, s, h1, h2⟩
    have mk : ∀ d, (x = 63 ∨ x = d) → (y = 63 ∨ y = d) → Meet (x :: a) (y :: b) := fun d p q =>
      ⟨d :: s, (Mt_one hx _ _).2 ⟨d, s, rfl, p, h1⟩, (Mt_one hy _ _).2 ⟨d, s, rfl, q, h2⟩⟩
    rcases hf with h | h | h
    · exact mk y (.inl h) (.inr rfl)
    · exact mk x (.inr rfl) (.inl h)
    · exact mk x (.inr rfl) (.inr h.symm)
theorem Meet_nil_one {y : UInt8} (b : List UInt8) (hy : y ≠ 42) : ¬ Meet [] (y :: b) := by
  rintro ⟨t, h1, h2⟩
  obtain ⟨d, s, e, _⟩ := (Mt_one hy b t).1 h2
  rw [(Mt_nil t).1 h1] at e
  cases e

/-- What is left of both at places i and k. -/
def TailMeet (A B : List UInt8) (i k : Nat) : Prop := Meet (A.drop i) (B.drop k)
theorem TailMeet_end (A B : List UInt8) : TailMeet A B A.length B.length := by
  unfold TailMeet
  rw [List.drop_length, List.drop_length]
  exact Meet_nil
theorem TailMeet_star (A B : List UInt8) (i k : Nat) (hi : i < A.length) (h : A.getD i 0 = 42) : TailMeet A B i k ↔ TailMeet A B (i + 1) k ∨ (k < B.length ∧ TailMeet A B i (k + 1)) := by
  unfold TailMeet
  rw [drop_cons A i hi, h, Meet_star]
  constructor
  · rintro (h1 | ⟨x, b', e, h1⟩)
    · exact .inl h1
    · have hk : k < B.length := by
        rcases Nat.lt_or_ge k B.length with hk | hk
        · exact hk
        · rw [List.drop_of_length_le hk] at e; cases e
      rw [drop_cons B k hk] at e
      injection e with e1 e2
      exact .inr ⟨hk, by rw [e2]; exact h1⟩
  · rintro (h1 | ⟨hk, h1⟩)
    · exact .inl h1
    · exact .inr ⟨_, _, drop_cons B k hk, h1⟩
theorem TailMeet_symm (A B : List UInt8) (i k : Nat) : TailMeet A B i k ↔ TailMeet B A k i := Meet_symm _ _
theorem TailMeet_star2 (A B : List UInt8) (i k : Nat) (hk : k < B.length) (h : B.getD k 0 = 42) : TailMeet A B i k ↔ TailMeet A B i (k + 1) ∨ (i < A.length ∧ TailMeet A B (i + 1) k) := by
  rw [TailMeet_symm, TailMeet_star B A k i hk h, TailMeet_symm B A (k + 1) i, TailMeet_symm B A k (i + 1)]
theorem TailMeet_one (A B : List UInt8) (i k : Nat) (hi : i < A.length) (hk : k < B.length) (h1 : A.getD i 0 ≠ 42) (h2 : B.getD k 0 ≠ 42) :
    TailMeet A B i k ↔ (A.getD i 0 = 63 ∨ B.getD k 0 = 63 ∨ A.getD i 0 = B.getD k 0) ∧ TailMeet A B (i + 1) (k + 1) := by
  unfold TailMeet
  rw [drop_cons A i hi, drop_cons B k hk, Meet_one _ _ h1 h2]
theorem TailMeet_no (A B : List UInt8) (i k : Nat) (hi : i ≤ A.length) (hk : k ≤ B.length) (h : ¬ (i < A.length ∧ k < B.length)) (h0 : ¬ (i = A.length ∧ k = B.length))
    (h1 : i < A.length → A.getD i 0 ≠ 42) (h2 : k < B.length → B.getD k 0 ≠ 42) : ¬ TailMeet A B i k := by
  by_cases hi2 : i < A.length
  · have e : k = B.length := by omega
    rw [TailMeet_symm]
    unfold TailMeet
    rw [e, List.drop_length, drop_cons A i hi2]
    exact Meet_nil_one _ (h1 hi2)
  · have e : i = A.length := by omega
    unfold TailMeet
    rw [e, List.drop_length, drop_cons B k (by omega)]
    exact Meet_nil_one _ (h2 (by omega))
end Go.Proofs.Ytbdaledkkbkhgaa.GlobMath
