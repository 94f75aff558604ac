/- Plain facts on two patterns that match one text. No program in sight. -/
import Derived.Test.YtbdaledkkbkhgaaGlobMath
namespace Go.Proofs.Ytbdaledkkbkhgaa.GlobMath

/-- Place k of pattern B is reached by a text: what is ahead of it stands for the text; a star at k may have taken some. -/
def Reach (B : List UInt8) (k : Nat) (t : List UInt8) : Prop := if B.getD k 0 = 42 then Mt (B.take (k + 1)) t else Mt (B.take k) t
/-- Two patterns' beginnings reach places i and k by one text. -/
def Both (A B : List UInt8) (i k : Nat) : Prop := ∃ t, Mt (A.take i) t ∧ Reach B k t
/-- What follows along stars. -/
def Cl (B : List UInt8) (pre : Nat → Prop) : Nat → Prop
  | 0 => pre 0
  | k + 1 => pre (k + 1) ∨ (B.getD k 0 = 42 ∧ Cl B pre k)
/-- Can one byte be taken by both? -/
def fits (c b : UInt8) : Prop := c = 63 ∨ b = 63 ∨ b = c
/-- What is reached by one byte more. -/
def Pre (B : List UInt8) (c : UInt8) (at_ : Nat → Prop) : Nat → Prop
  | 0 => B.getD 0 0 = 42 ∧ at_ 0
  | k + 1 => (B.getD (k + 1) 0 = 42 ∧ at_ (k + 1)) ∨ (B.getD k 0 ≠ 42 ∧ fits c (B.getD k 0) ∧ at_ k)

theorem take_succ_getD (B : List UInt8) (k : Nat) (h : k < B.length) : B.take (k + 1) = B.take k ++ [B.getD k 0] := by
  rw [List.take_succ_eq_append_getElem h, List.getD_eq_getElem?_getD, List.getElem?_eq_getElem h]; rfl
theorem lt_of_getD {B : List UInt8} {k : Nat} (h : B.getD k 0 = 42) : k < B.length := by
  rcases Nat.lt_or_ge k B.length with hk | hk
  · exact hk
  · rw [List.getD_eq_getElem?_getD, List.getElem?_eq_none hk] at h; cases h
theorem Mt_take_star {B : List UInt8} {k : Nat} (h : B.getD k 0 = 42) (s : List UInt8) : Mt (B.take (k + 1)) s ↔ ∃ u v, s = u ++ v ∧ Mt (B.take k) u := by
  rw [take_succ_getD B k (lt_of_getD h), h, Mt_snoc]; simp [Acc_star]
theorem Reach_star {B : List UInt8} {k : Nat} (h : B.getD k 0 = 42) (s : List UInt8) : Reach B k s ↔ Mt (B.take (k + 1)) s := by unfold Reach; rw [if_pos h]
theorem Reach_no {B : List UInt8} {k : Nat} (h : B.getD k 0 ≠ 42) (s : List UInt8) : Reach B k s ↔ Mt (B.take k) s := by unfold Reach; rw [if_neg h]
theorem Reach_of_Mt {B : List UInt8} {k : Nat} {s : List UInt8} (h : Mt (B.take k) s) : Reach B k s := by
  by_cases hb : B.getD k 0 = 42
  · exact (Reach_star hb s).2 ((Mt_take_star hb s).2 ⟨s, [], by simp, h⟩)
  · exact (Reach_no hb s).2 h
theorem Reach_next {B : List UInt8} {k : Nat} {s : List UInt8} (hb : B.getD k 0 = 42) (h : Reach B k s) : Reach B (k + 1) s := Reach_of_Mt ((Reach_star hb s).1 h)

/-- The beginning of a pattern, by its last byte. -/
theorem Mt_take_last {B : List UInt8} {k : Nat} (hk : k < B.length) (t : List UInt8) (d : UInt8) :
    Mt (B.take (k + 1)) (t ++ [d]) ↔ (B.getD k 0 = 42 ∧ Reach B k (t ++ [d])) ∨ (B.getD k 0 ≠ 42 ∧ (B.getD k 0 = 63 ∨ B.getD k 0 = d) ∧ Reach B k t) := by
  by_cases hb : B.getD k 0 = 42
  · rw [Reach_star hb]
    simp only [hb, true_and, ne_eq, not_true_eq_false, false_and, or_false]
  · rw [take_succ_getD B k hk, Mt_snoc, Reach_no hb t]
    simp only [hb, false_and, false_or, ne_eq, not_false_eq_true, true_and]
    constructor
    · rintro ⟨u, v, hs, hu, hv⟩
      obtain ⟨e, rfl, he⟩ := (Acc_one hb v).1 hv
      obtain ⟨rfl, h2⟩ := List.append_inj' hs rfl
      injection h2 with h2
      subst h2
      exact ⟨he, hu⟩
    · rintro ⟨he, hu⟩
      exact ⟨t, [d], rfl, hu, (Acc_one hb _).2 ⟨d, rfl, he⟩⟩
theorem Reach_last (B : List UInt8) (k : Nat) (hk : k ≤ B.length) (t : List UInt8) (d : UInt8) :
    Reach B k (t ++ [d]) ↔ (B.getD k 0 = 42 ∧ Reach B k t) ∨ (∃ j, k = j + 1 ∧ ((B.getD j 0 = 42 ∧ Reach B j (t ++ [d])) ∨ (B.getD j 0 ≠ 42 ∧ (B.getD j 0 = 63 ∨ B.getD j 0 = d) ∧ Reach B j t))) := by
  have key : Mt (B.take k) (t ++ [d]) ↔ (∃ j, k = j + 1 ∧ ((B.getD j 0 = 42 ∧ Reach B j (t ++ [d])) ∨ (B.getD j 0 ≠ 42 ∧ (B.getD j 0 = 63 ∨ B.getD j 0 = d) ∧ Reach B j t))) := by
    cases k with
    | zero => simp [Mt_nil]
    | succ j =>
      rw [Mt_take_last (by omega)]
      constructor
      · intro h; exact ⟨j, rfl, h⟩
      · rintro ⟨j', e, h⟩
        obtain rfl : j = j' := by omega
        exact h
  by_cases hb : B.getD k 0 = 42
  · rw [Reach_star hb, ← key, Reach_star hb]
    simp only [hb, true_and]
    rw [Mt_take_star hb, Mt_take_star hb]
    constructor
    · rintro ⟨u, v, hs, hu⟩
      rcases List.eq_nil_or_concat v with rfl | ⟨v', e, rfl⟩
      · right; rw [List.append_nil] at hs; rw [hs]; exact hu
      · left
        rw [List.concat_eq_append, ← List.append_assoc] at hs
        obtain ⟨rfl, _⟩ := List.append_inj' hs rfl
        exact ⟨u, v', rfl, hu⟩
    · rintro (⟨u, v, rfl, hu⟩ | h)
      · exact ⟨u, v ++ [d], by simp, hu⟩
      · exact ⟨_, [], by simp, h⟩
  · rw [Reach_no hb, ← key]; simp only [hb, false_and, false_or]

theorem Reach_empty (B : List UInt8) (k : Nat) : Reach B k [] ↔ Mt (B.take k) [] := by
  by_cases hb : B.getD k 0 = 42
  · rw [Reach_star hb, Mt_take_star hb]
    constructor
    · rintro ⟨u, v, h, hu⟩
      obtain ⟨rfl, _⟩ := List.append_eq_nil_iff.1 h.symm
      exact hu
    · intro h; exact ⟨[], [], rfl, h⟩
  · rw [Reach_no hb]
theorem Both_zero (A B : List UInt8) (k : Nat) (hk : k ≤ B.length) : Both A B 0 k ↔ Cl B (fun j => j = 0) k := by
  have h0 : Both A B 0 k ↔ Mt (B.take k) [] := by
    unfold Both
    simp only [List.take_zero, Mt_nil]
    constructor
    · rintro ⟨t, rfl, h⟩; exact (Reach_empty B k).1 h
    · intro h; exact ⟨[], rfl, (Reach_empty B k).2 h⟩
  rw [h0]
  clear h0
  induction k with
  | zero => simp [Cl, Mt_nil]
  | succ k ih =>
    rw [take_succ_getD B k (by omega), Mt_snoc]
    simp only [Cl, Nat.add_one_ne_zero, false_or]
    have e : Mt (B.take k) [] ↔ Cl B (fun j => j = 0) k := ih (Nat.le_of_succ_le hk)
    rw [← e]
    constructor
    · rintro ⟨u, v, h, hu, hv⟩
      obtain ⟨rfl, rfl⟩ := List.append_eq_nil_iff.1 h.symm
      refine ⟨?_, hu⟩
      by_cases hb : B.getD k 0 = 42
      · exact hb
      · obtain ⟨d, hd, _⟩ := (Acc_one hb []).1 hv
        cases hd
    · rintro ⟨hb, h⟩
      exact ⟨[], [], rfl, h, by rw [hb]; exact Acc_star _⟩

/-- One byte that is no star: what both reach. -/
theorem Both_one (A B : List UInt8) (i : Nat) (hi : i < A.length) (hc : A.getD i 0 ≠ 42) (k : Nat) (hk : k ≤ B.length) :
    Both A B (i + 1) k ↔ Cl B (Pre B (A.getD i 0) (Both A B i)) k := by
  have h1 : ∀ k, Both A B (i + 1) k ↔ ∃ t d, (A.getD i 0 = 63 ∨ A.getD i 0 = d) ∧ Mt (A.take i) t ∧ Reach B k (t ++ [d]) := by
    intro k
    unfold Both
    rw [take_succ_getD A i hi]
    constructor
    · rintro ⟨s, hs, hr⟩
      obtain ⟨u, v, rfl, hu, hv⟩ := (Mt_snoc _ _ _).1 hs
      obtain ⟨d, rfl, hd⟩ := (Acc_one hc v).1 hv
      exact ⟨u, d, hd, hu, hr⟩
    · rintro ⟨t, d, hd, hu, hr⟩
      exact ⟨t ++ [d], (Mt_snoc _ _ _).2 ⟨t, [d], rfl, hu, (Acc_one hc _).2 ⟨d, rfl, hd⟩⟩, hr⟩
  have star : ∀ k, k ≤ B.length → B.getD k 0 = 42 → Both A B i k → Both A B (i + 1) k := by
    rintro k hk hb ⟨t, ht, hr⟩
    refine (h1 k).2 ⟨t, A.getD i 0, .inr rfl, ht, ?_⟩
    exact (Reach_last B k hk t _).2 (.inl ⟨hb, hr⟩)
  have one : ∀ j, j + 1 ≤ B.length → B.getD j 0 ≠ 42 → fits (A.getD i 0) (B.getD j 0) → Both A B i j → Both A B (i + 1) (j + 1) := by
    rintro j hk hb hf ⟨t, ht, hr⟩
    rcases hf with h | h | h
    · exact (h1 _).2 ⟨t, B.getD j 0, .inl h, ht, (Reach_last B _ hk t _).2 (.inr ⟨j, rfl, .inr ⟨hb, .inr rfl, hr⟩⟩)⟩
    · exact (h1 _).2 ⟨t, A.getD i 0, .inr rfl, ht, (Reach_last B _ hk t _).2 (.inr ⟨j, rfl, .inr ⟨hb, .inl h, hr⟩⟩)⟩
    · exact (h1 _).2 ⟨t, A.getD i 0, .inr rfl, ht, (Reach_last B _ hk t _).2 (.inr ⟨j, rfl, .inr ⟨hb, .inr h, hr⟩⟩)⟩
  have fit : ∀ {b d : UInt8}, (A.getD i 0 = 63 ∨ A.getD i 0 = d) → (b = 63 ∨ b = d) → fits (A.getD i 0) b := by
    intro b d h h'
    rcases h with h | h
    · exact .inl h
    · rcases h' with h' | h'
      · exact .inr (.inl h')
      · exact .inr (.inr (by rw [h', h]))
  induction k with
  | zero =>
    simp only [Cl, Pre]
    constructor
    · intro h
      obtain ⟨t, d, hd, ht, hr⟩ := (h1 0).1 h
      rcases (Reach_last B 0 hk t d).1 hr with ⟨hb, h2⟩ | ⟨j, e, _⟩
      · exact ⟨hb, t, ht, h2⟩
      · cases e
    · rintro ⟨hb, h⟩
      exact star 0 hk hb h
  | succ k ih =>
    simp only [Cl, Pre]
    have e : Both A B (i + 1) k ↔ Cl B (Pre B (A.getD i 0) (Both A B i)) k := ih (Nat.le_of_succ_le hk)
    rw [← e]
    constructor
    · intro h
      obtain ⟨t, d, hd, ht, hr⟩ := (h1 _).1 h
      rcases (Reach_last B _ hk t d).1 hr with ⟨hb, h2⟩ | ⟨j, e, h2⟩
      · exact .inl (.inl ⟨hb, t, ht, h2⟩)
      · obtain rfl : k = j := by omega
        rcases h2 with ⟨hb, h2⟩ | ⟨hb, h3, h2⟩
        · exact .inr ⟨hb, (h1 _).2 ⟨t, d, hd, ht, h2⟩⟩
        · exact .inl (.inr ⟨hb, fit hd h3, t, ht, h2⟩)
    · rintro ((⟨hb, h⟩ | ⟨hb, hf, h⟩) | ⟨hb, h⟩)
      · exact star _ hk hb h
      · exact one k hk hb hf h
      · obtain ⟨t, ht, hr⟩ := h
        exact ⟨t, ht, Reach_next hb hr⟩

/-- A star: what both reach. -/
theorem Both_star (A B : List UInt8) (i : Nat) (hc : A.getD i 0 = 42) (k : Nat) (hk : k ≤ B.length) :
    Both A B (i + 1) k ↔ ∃ j, j ≤ k ∧ Both A B i j := by
  have down : ∀ (t : List UInt8) (d : UInt8) (k : Nat), k ≤ B.length → Reach B k (t ++ [d]) → ∃ j, j ≤ k ∧ Reach B j t := by
    intro t d k
    induction k with
    | zero =>
      intro hk h
      rcases (Reach_last B 0 hk t d).1 h with ⟨_, h2⟩ | ⟨j, e, _⟩
      · exact ⟨0, Nat.le_refl _, h2⟩
      · cases e
    | succ k ih =>
      intro hk h
      rcases (Reach_last B _ hk t d).1 h with ⟨_, h2⟩ | ⟨j, e, h2⟩
      · exact ⟨_, Nat.le_refl _, h2⟩
      · obtain rfl : k = j := by omega
        rcases h2 with ⟨_, h2⟩ | ⟨_, _, h2⟩
        · obtain ⟨j, hj, h3⟩ := ih (by omega) h2
          exact ⟨j, by omega, h3⟩
        · exact ⟨k, by omega, h2⟩
  have downs : ∀ (n : Nat) (u v : List UInt8) (k : Nat), v.length = n → k ≤ B.length → Reach B k (u ++ v) → ∃ j, j ≤ k ∧ Reach B j u := by
    intro n
    induction n with
    | zero =>
      intro u v k hv hk h
      obtain rfl := List.eq_nil_of_length_eq_zero hv
      rw [List.append_nil] at h
      exact ⟨k, Nat.le_refl _, h⟩
    | succ n ih =>
      intro u v k hv hk h
      rcases List.eq_nil_or_concat v with rfl | ⟨v', e, rfl⟩
      · simp at hv
      · rw [List.concat_eq_append] at hv h
        rw [← List.append_assoc] at h
        obtain ⟨j, hj, h2⟩ := down (u ++ v') e k hk h
        obtain ⟨j2, hj2, h3⟩ := ih u v' j (by simpa using hv) (by omega) h2
        exact ⟨j2, by omega, h3⟩
  have up : ∀ (n : Nat) (t : List UInt8) (j : Nat), j + n ≤ B.length → Reach B j t → ∃ v, Reach B (j + n) (t ++ v) := by
    intro n
    induction n with
    | zero => intro t j _ h; exact ⟨[], by simpa using h⟩
    | succ n ih =>
      intro t j hj h
      by_cases hb : B.getD j 0 = 42
      · obtain ⟨v, hv⟩ := ih t (j + 1) (by omega) (Reach_next hb h)
        exact ⟨v, by rw [show j + (n + 1) = j + 1 + n from by omega]; exact hv⟩
      · obtain ⟨v, hv⟩ := ih (t ++ [B.getD j 0]) (j + 1) (by omega) ((Reach_last B _ (by omega) t _).2 (.inr ⟨j, rfl, .inr ⟨hb, .inr rfl, h⟩⟩))
        exact ⟨[B.getD j 0] ++ v, by rw [show j + (n + 1) = j + 1 + n from by omega, ← List.append_assoc]; exact hv⟩
  have h1 : Both A B (i + 1) k ↔ ∃ u v, Mt (A.take i) u ∧ Reach B k (u ++ v) := by
    unfold Both
    constructor
    · rintro ⟨t, ht, hr⟩
      obtain ⟨u, v, rfl, hu⟩ := (Mt_take_star hc t).1 ht
      exact ⟨u, v, hu, hr⟩
    · rintro ⟨u, v, hu, hr⟩
      exact ⟨u ++ v, (Mt_take_star hc _).2 ⟨u, v, rfl, hu⟩, hr⟩
  rw [h1]
  constructor
  · rintro ⟨u, v, hu, hr⟩
    obtain ⟨j, hj, h2⟩ := downs _ u v k rfl hk hr
    exact ⟨j, hj, u, hu, h2⟩
  · rintro ⟨j, hj, t, ht, hr⟩
    obtain ⟨v, hv⟩ := up (k - j) t j (by omega) hr
    rw [show j + (k - j) = k from by omega] at hv
    exact ⟨t, v, ht, hv⟩

/-- Two patterns match a text in common. -/
def Meet (A B : List UInt8) : Prop := ∃ t, Mt A t ∧ Mt B t
theorem Both_end (A B : List UInt8) : Both A B A.length B.length ↔ Meet A B := by
  unfold Both Meet
  have : B.getD B.length 0 ≠ 42 := by simp
  simp only [List.take_length, Reach_no this]
theorem Meet_symm (A B : List UInt8) : Meet A B ↔ Meet B A := ⟨fun ⟨t, a, b⟩ => ⟨t, b, a⟩, fun ⟨t, a, b⟩ => ⟨t, b, a⟩⟩
theorem Meet_plain (A B : List UInt8) (h : ∀ c ∈ A, c ≠ 42 ∧ c ≠ 63) : Meet A B ↔ Mt B A := by
  constructor
  · rintro ⟨t, a, b⟩
    rw [(Mt_plain A t h).1 a]; exact b
  · intro hb; exact ⟨A, (Mt_plain A A h).2 rfl, hb⟩
end Go.Proofs.Ytbdaledkkbkhgaa.GlobMath
