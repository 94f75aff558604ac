/- Plain facts on patterns with wildcards over lists of bytes. No program in sight. -/
namespace Go.Proofs.Ytbdaledkkbkhgaa.GlobMath

/-- What one byte of a pattern stands for. -/
def Acc (c : UInt8) (u : List UInt8) : Prop := if c = 42 then True else ∃ d, u = [d] ∧ (c = 63 ∨ c = d)

/-- A pattern stands for a text. -/
def Mt : List UInt8 → List UInt8 → Prop
  | [], s => s = []
  | c :: p, s => ∃ u t, s = u ++ t ∧ Acc c u ∧ Mt p t

theorem Mt_nil (s : List UInt8) : Mt [] s ↔ s = [] := Iff.rfl
theorem Mt_cons (c : UInt8) (p s : List UInt8) : Mt (c :: p) s ↔ ∃ u t, s = u ++ t ∧ Acc c u ∧ Mt p t := Iff.rfl

theorem Acc_star (u : List UInt8) : Acc 42 u := by simp [Acc]
theorem Acc_one {c : UInt8} (h : c ≠ 42) (u : List UInt8) : Acc c u ↔ ∃ d, u = [d] ∧ (c = 63 ∨ c = d) := by simp [Acc, h]

theorem Mt_star (p s : List UInt8) : Mt (42 :: p) s ↔ ∃ u t, s = u ++ t ∧ Mt p t := by
  simp [Mt_cons, Acc_star]
theorem Mt_one {c : UInt8} (h : c ≠ 42) (p s : List UInt8) : Mt (c :: p) s ↔ ∃ d t, s = d :: t ∧ (c = 63 ∨ c = d) ∧ Mt p t := by
  rw [Mt_cons]
  constructor
  · rintro ⟨u, t, rfl, hu, hm⟩
    obtain ⟨d, rfl, hd⟩ := (Acc_one h u).1 hu
    exact ⟨d, t, rfl, hd, hm⟩
  · rintro ⟨d, t, rfl, hd, hm⟩
    exact ⟨[d], t, rfl, (Acc_one h _).2 ⟨d, rfl, hd⟩, hm⟩

theorem Mt_append (p q s : List UInt8) : Mt (p ++ q) s ↔ ∃ u t, s = u ++ t ∧ Mt p u ∧ Mt q t := by
  induction p generalizing s with
  | nil =>
    constructor
    · intro h; exact ⟨[], s, rfl, rfl, h⟩
    · rintro ⟨u, t, rfl, rfl, h⟩; exact h
  | cons c p ih =>
    rw [List.cons_append, Mt_cons]
    constructor
    · rintro ⟨u, t, rfl, hu, hm⟩
      obtain ⟨v, x, rfl, hv, hx⟩ := (ih t).1 hm
      exact ⟨u ++ v, x, by simp, ⟨u, v, rfl, hu, hv⟩, hx⟩
    · rintro ⟨u, t, rfl, ⟨a, b, rfl, ha, hb⟩, ht⟩
      exact ⟨a, b ++ t, by simp, ha, (ih _).2 ⟨b, t, rfl, hb, ht⟩⟩

theorem Mt_single (c : UInt8) (s : List UInt8) : Mt [c] s ↔ Acc c s := by
  rw [Mt_cons]
  constructor
  · rintro ⟨u, t, rfl, hu, rfl⟩; simpa using hu
  · intro h; exact ⟨s, [], by simp, h, rfl⟩

theorem Mt_snoc (p : List UInt8) (c : UInt8) (s : List UInt8) : Mt (p ++ [c]) s ↔ ∃ u t, s = u ++ t ∧ Mt p u ∧ Acc c t := by
  rw [Mt_append]; simp only [Mt_single]

/-- Each pattern stands for some text. -/
theorem Mt_some (p : List UInt8) : ∃ s, Mt p s := by
  induction p with
  | nil => exact ⟨[], rfl⟩
  | cons c p ih =>
    obtain ⟨s, hs⟩ := ih
    by_cases h : c = 42
    · subst h; exact ⟨s, [], s, rfl, Acc_star _, hs⟩
    · exact ⟨c :: s, [c], s, rfl, (Acc_one h _).2 ⟨c, rfl, .inr rfl⟩, hs⟩

/-- How many bytes of a pattern are no star. -/
def least (p : List UInt8) : Nat := (p.filter fun c => c != 42).length

theorem Mt_least (p s : List UInt8) (h : Mt p s) : least p ≤ s.length := by
  induction p generalizing s with
  | nil => simp [least]
  | cons c p ih =>
    obtain ⟨u, t, rfl, hu, hm⟩ := h
    have := ih t hm
    by_cases hc : c = 42
    · subst hc; simp only [least, List.filter_cons, List.length_append] at *; simp; omega
    · obtain ⟨d, rfl, _⟩ := (Acc_one hc u).1 hu
      simp only [least, List.filter_cons, List.length_append, List.length_singleton] at *; simp [hc]; omega

/-- A pattern without wildcards stands for itself alone. -/
theorem Mt_plain (p s : List UInt8) (h : ∀ c ∈ p, c ≠ 42 ∧ c ≠ 63) : Mt p s ↔ p = s := by
  induction p generalizing s with
  | nil => simp [Mt_nil, eq_comm]
  | cons c p ih =>
    have hc := h c (by simp)
    rw [Mt_one hc.1]
    have ih' := fun s => ih s (fun d hd => h d (by simp [hd]))
    constructor
    · rintro ⟨d, t, rfl, hd, hm⟩
      rcases hd with hd | rfl
      · exact absurd hd hc.2
      · rw [(ih' t).1 hm]
    · rintro rfl
      exact ⟨c, p, rfl, .inr rfl, (ih' p).2 rfl⟩


/-! ### Places in a pattern and a text -/
theorem drop_cons (l : List UInt8) (i : Nat) (h : i < l.length) : l.drop i = l.getD i 0 :: l.drop (i + 1) := by
  rw [List.drop_eq_getElem_cons h, List.getD_eq_getElem?_getD, List.getElem?_eq_getElem h]; rfl
theorem suffix_drop (s : List UInt8) (j : Nat) (hj : j ≤ s.length) (u t : List UInt8) (h : s.drop j = u ++ t) : t = s.drop (j + u.length) ∧ j + u.length ≤ s.length := by
  have h1 : (s.drop j).length = u.length + t.length := by rw [h, List.length_append]
  rw [List.length_drop] at h1
  refine ⟨?_, by omega⟩
  rw [← List.drop_drop, h, List.drop_left]
theorem Mt_drop_star (P S : List UInt8) (i j : Nat) (hi : i < P.length) (h : P.getD i 0 = 42) (hj : j ≤ S.length) :
    Mt (P.drop i) (S.drop j) ↔ ∃ y, j ≤ y ∧ y ≤ S.length ∧ Mt (P.drop (i + 1)) (S.drop y) := by
  rw [drop_cons P i hi, h, Mt_star]
  constructor
  · rintro ⟨u, t, hs, hm⟩
    obtain ⟨ht, hl⟩ := suffix_drop S j hj u t hs
    exact ⟨j + u.length, by omega, hl, by rw [← ht]; exact hm⟩
  · rintro ⟨y, h1, h2, hm⟩
    refine ⟨(S.drop j).take (y - j), S.drop y, ?_, hm⟩
    have : S.drop y = (S.drop j).drop (y - j) := by rw [List.drop_drop]; congr 1; omega
    rw [this, List.take_append_drop]
theorem Mt_drop_one (P S : List UInt8) (i j : Nat) (hi : i < P.length) (h : P.getD i 0 ≠ 42) :
    Mt (P.drop i) (S.drop j) ↔ j < S.length ∧ (P.getD i 0 = 63 ∨ P.getD i 0 = S.getD j 0) ∧ Mt (P.drop (i + 1)) (S.drop (j + 1)) := by
  rw [drop_cons P i hi, Mt_one h]
  constructor
  · rintro ⟨d, t, hs, hd, hm⟩
    have hj : j < S.length := by
      rcases Nat.lt_or_ge j S.length with hj | hj
      · exact hj
      · rw [List.drop_of_length_le hj] at hs; cases hs
    rw [drop_cons S j hj] at hs
    injection hs with h1 h2
    subst h1 h2
    exact ⟨hj, hd, hm⟩
  · rintro ⟨hj, hd, hm⟩
    exact ⟨_, _, drop_cons S j hj, hd, hm⟩
theorem Mt_drop_end (P S : List UInt8) (i j : Nat) (hi : P.length ≤ i) : Mt (P.drop i) (S.drop j) ↔ S.length ≤ j := by
  rw [List.drop_of_length_le hi, Mt_nil, List.drop_eq_nil_iff]

/-- What is known of a search that has come to places i and j, with a star at t that has taken what is ahead of b. -/
structure Star (P S : List UInt8) (i j t b : Nat) : Prop where
  hti : t < i
  hbj : b ≤ j
  hd : i - (t + 1) = j - b
  all : Mt P S ↔ ∃ y, b ≤ y ∧ y ≤ S.length ∧ Mt (P.drop (t + 1)) (S.drop y)
  here : Mt (P.drop (t + 1)) (S.drop b) ↔ Mt (P.drop i) (S.drop j)
  on : ∀ y, b ≤ y → y ≤ S.length → Mt (P.drop (t + 1)) (S.drop y) → y + (i - (t + 1)) ≤ S.length ∧ Mt (P.drop i) (S.drop (y + (i - (t + 1))))

theorem Star.new {P S : List UInt8} {i j : Nat} (hi : i < P.length) (h : P.getD i 0 = 42) (hj : j ≤ S.length) (hm : Mt P S ↔ Mt (P.drop i) (S.drop j)) : Star P S (i + 1) j i j where
  hti := by omega
  hbj := Nat.le_refl _
  hd := by omega
  all := by rw [hm, Mt_drop_star P S i j hi h hj]
  here := Iff.rfl
  on := fun y _ hy hm => by
    have : y + (i + 1 - (i + 1)) = y := by omega
    rw [this]
    exact ⟨hy, hm⟩
theorem Star.to {P S : List UInt8} {i j t b : Nat} (H : Star P S i j t b) (hi : i < P.length) (h : P.getD i 0 = 42) (hj : j ≤ S.length) : Mt P S ↔ Mt (P.drop i) (S.drop j) := by
  rw [H.all]
  constructor
  · rintro ⟨y, h1, h2, hm⟩
    obtain ⟨h3, h4⟩ := H.on y h1 h2 hm
    rw [Mt_drop_star P S i _ hi h h3] at h4
    obtain ⟨z, h5, h6, h7⟩ := h4
    rw [Mt_drop_star P S i j hi h hj]
    have := H.hd
    exact ⟨z, by have := H.hbj; omega, h6, h7⟩
  · intro hm
    exact ⟨b, Nat.le_refl _, by have := H.hbj; omega, H.here.2 hm⟩
theorem Star.one {P S : List UInt8} {i j t b : Nat} (H : Star P S i j t b) (hi : i < P.length) (h : P.getD i 0 ≠ 42) (hj : j < S.length) (he : P.getD i 0 = 63 ∨ P.getD i 0 = S.getD j 0) : Star P S (i + 1) (j + 1) t b where
  hti := by have := H.hti; omega
  hbj := by have := H.hbj; omega
  hd := by have := H.hd; have := H.hti; have := H.hbj; omega
  all := H.all
  here := by rw [H.here, Mt_drop_one P S i j hi h]; exact ⟨fun x => x.2.2, fun x => ⟨hj, he, x⟩⟩
  on := fun y h1 h2 hm => by
    obtain ⟨h3, h4⟩ := H.on y h1 h2 hm
    rw [Mt_drop_one P S i _ hi h] at h4
    have := H.hti
    have e : y + (i + 1 - (t + 1)) = y + (i - (t + 1)) + 1 := by omega
    rw [e]
    exact ⟨by omega, h4.2.2⟩
theorem Star.back {P S : List UInt8} {i j t b : Nat} (H : Star P S i j t b) (_hj : j < S.length) (hn : ¬ Mt (P.drop i) (S.drop j)) : Star P S (t + 1) (b + 1) t (b + 1) where
  hti := by omega
  hbj := Nat.le_refl _
  hd := by omega
  all := by
    rw [H.all]
    constructor
    · rintro ⟨y, h1, h2, hm⟩
      rcases Nat.lt_or_ge b y with h | h
      · exact ⟨y, h, h2, hm⟩
      · have e : y = b := by omega
        subst e
        exact absurd (H.here.1 hm) hn
    · rintro ⟨y, h1, h2, hm⟩
      exact ⟨y, by omega, h2, hm⟩
  here := Iff.rfl
  on := fun y _ hy hm => by
    have : y + (t + 1 - (t + 1)) = y := by omega
    rw [this]
    exact ⟨hy, hm⟩
theorem Star.over {P S : List UInt8} {i j t b : Nat} (H : Star P S i j t b) (hj : j = S.length) : Mt P S ↔ Mt (P.drop i) (S.drop j) := by
  rw [H.all]
  constructor
  · rintro ⟨y, h1, h2, hm⟩
    obtain ⟨h3, h4⟩ := H.on y h1 h2 hm
    have := H.hd
    have := H.hbj
    have e : y = b := by omega
    subst e
    exact H.here.1 hm
  · intro hm
    exact ⟨b, Nat.le_refl _, by have := H.hbj; omega, H.here.2 hm⟩

end Go.Proofs.Ytbdaledkkbkhgaa.GlobMath
