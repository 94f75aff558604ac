/- What glob.Meets computes, in plain words. -/
import Derived.Test.YtbdaledkkbkhgaaPGlobx3
import Derived.Test.YtbdaledkkbkhgaaGlobBase
import Derived.Test.YtbdaledkkbkhgaaMeetMath
namespace Go.Proofs.Ytbdaledkkbkhgaa.GlobPure
open Go.RowKit Go.Proofs.Ytbdaledkkbkhgaa.PGlob Go.Proofs.YtbdaledkkbkhgaaW.PrintWords Go.Proofs.YtbdaledkkbkhgaaW.PrintLast Go.Proofs.Ytbdaledkkbkhgaa.GlobMath

def tr (l : List Bool) (k : Nat) : Prop := l.getD k false = true
theorem rdOf_nat (l : List Bool) (k : Nat) : rdOf false l (k : Int) = l.getD k false := by simp [rdOf]
theorem getD_set (l : List Bool) (i k : Nat) (v : Bool) (hi : i < l.length) : (l.set i v).getD k false = if i = k then v else l.getD k false := by
  rw [List.getD_eq_getElem?_getD, List.getElem?_set, List.getD_eq_getElem?_getD]
  by_cases h : i = k
  · subst h; simp [hi]
  · simp [h]
theorem tr_set (l : List Bool) (i k : Nat) (v : Bool) (hi : i < l.length) : tr (l.set i v) k ↔ (i = k ∧ v = true) ∨ (i ≠ k ∧ tr l k) := by
  unfold tr
  rw [getD_set l i k v hi]
  by_cases h : i = k <;> simp [h]

theorem spread_l0 (b : ByteArray) (hb : b.size ≤ 4000) (l : List Bool) (n : Nat) : ∀ (j : Nat) (x : List Bool), b.size - j = n → j ≤ b.size → x.length = b.size + 1 →
    (∀ k, k ≤ j → (tr x k ↔ Cl b.data.toList (tr l) k)) → (∀ k, j < k → (tr x k ↔ tr l k)) →
    ∃ out, Ev (fun k => glob_spread.l0 k b x b.size j) out ∧ out.length = b.size + 1 ∧ ∀ k, k ≤ b.size → (tr out k ↔ Cl b.data.toList (tr l) k) := by
  induction n with
  | zero =>
    intro j x hn hj hx h1 _
    obtain rfl : j = b.size := by omega
    refine ⟨x, Ev.step (f := fun _ => some x) (fun k => ?_) (Ev.now _), hx, h1⟩
    simp only [glob_spread.l0]; rw [if_neg (by omega)]
  | succ n ih =>
    intro j x hn hj hx h1 h2
    have hlt : j < b.size := by omega
    by_cases ht : x.getD j false = true
    · by_cases hc : b.data.toList.getD j 0 = 42
      · obtain ⟨out, he, hl, ho⟩ := ih (j + 1) (x.set (j + 1) true) (by omega) (by omega) (by simpa using hx) (by
          intro k hk
          rw [tr_set x (j + 1) k true (by omega)]
          rcases Nat.lt_or_ge k (j + 1) with h | h
          · rw [← h1 k (by omega)]
            have : j + 1 ≠ k := by omega
            simp [this]
          · obtain rfl : k = j + 1 := by omega
            simp only [Cl, true_and, ne_eq, not_true_eq_false, false_and, or_false, true_iff]
            exact .inr ⟨hc, (h1 j (Nat.le_refl _)).1 ht⟩) (by
          intro k hk
          rw [tr_set x (j + 1) k true (by omega), h2 k (by omega)]
          have : j + 1 ≠ k := by omega
          simp [this])
        refine ⟨out, Ev.step (fun k => ?_) he, hl, ho⟩
        simp only [glob_spread.l0]
        rw [if_pos (by omega), if_pos (by omega), if_pos (by omega), rdOf_nat, if_pos ht, if_pos (by omega), bt_getD, if_pos ((u8_42 _).2 hc), wrap_of (by omega) (by omega), if_pos (by omega), if_pos (by omega)]
        rfl
      · obtain ⟨out, he, hl, ho⟩ := ih (j + 1) x (by omega) (by omega) hx (by
          intro k hk
          rcases Nat.lt_or_ge k (j + 1) with h | h
          · exact h1 k (by omega)
          · obtain rfl : k = j + 1 := by omega
            rw [h2 (j + 1) (by omega)]
            simp only [Cl, hc, false_and, or_false]) (fun k hk => h2 k (by omega))
        refine ⟨out, Ev.step (fun k => ?_) he, hl, ho⟩
        simp only [glob_spread.l0]
        rw [if_pos (by omega), if_pos (by omega), if_pos (by omega), rdOf_nat, if_pos ht, if_pos (by omega), bt_getD, if_neg (fun e => hc ((u8_42 _).1 e)), wrap_of (by omega) (by omega)]
        rfl
    · obtain ⟨out, he, hl, ho⟩ := ih (j + 1) x (by omega) (by omega) hx (by
        intro k hk
        rcases Nat.lt_or_ge k (j + 1) with h | h
        · exact h1 k (by omega)
        · obtain rfl : k = j + 1 := by omega
          rw [h2 (j + 1) (by omega)]
          have : ¬ Cl b.data.toList (tr l) j := fun h => ht ((h1 j (Nat.le_refl _)).2 h)
          simp only [Cl, this, and_false, or_false]) (fun k hk => h2 k (by omega))
      refine ⟨out, Ev.step (fun k => ?_) he, hl, ho⟩
      simp only [glob_spread.l0]
      rw [if_pos (by omega), if_pos (by omega), if_pos (by omega), rdOf_nat, if_neg ht, wrap_of (by omega) (by omega)]
      rfl

theorem spread_ev (b : ByteArray) (hb : b.size ≤ 4000) (l : List Bool) (hl : l.length = b.size + 1) :
    ∃ out, Ev (fun k => glob_spread.f k b l) out ∧ out.length = b.size + 1 ∧ ∀ k, k ≤ b.size → (tr out k ↔ Cl b.data.toList (tr l) k) := by
  obtain ⟨out, he, h⟩ := spread_l0 b hb l _ 0 l rfl (Nat.zero_le _) hl (fun k hk => by rw [Nat.le_zero.1 hk]; rfl) (fun _ _ => Iff.rfl)
  refine ⟨out, Ev.congr (fun k => ?_) he, h⟩
  unfold glob_spread.f
  rw [if_pos (by omega), if_pos (by omega)]
  rfl

theorem onward_l0 (l : List Bool) (hl : l.length ≤ 4001) (n : Nat) : ∀ (j : Nat) (x : List Bool) (s : Bool), l.length - j = n → j ≤ l.length → x.length = l.length →
    (s = true ↔ ∃ m, m < j ∧ tr l m) → (∀ k, k < j → (tr x k ↔ ∃ m, m ≤ k ∧ tr l m)) →
    ∃ out, Ev (fun k => glob_onward.l0 k x s l l.length j) out ∧ out.length = l.length ∧ ∀ k, k < l.length → (tr out k ↔ ∃ m, m ≤ k ∧ tr l m) := by
  induction n with
  | zero =>
    intro j x s hn hj hx _ h1
    obtain rfl : j = l.length := by omega
    refine ⟨x, Ev.step (f := fun _ => some x) (fun k => ?_) (Ev.now _), hx, h1⟩
    simp only [glob_onward.l0]; rw [if_neg (by omega)]
  | succ n ih =>
    intro j x s hn hj hx hs h1
    have hlt : j < l.length := by omega
    have hsucc : (s || l.getD j false) = true ↔ ∃ m, m < j + 1 ∧ tr l m := by
      rw [Bool.or_eq_true, hs]
      constructor
      · rintro (⟨m, a, b⟩ | h)
        · exact ⟨m, by omega, b⟩
        · exact ⟨j, by omega, h⟩
      · rintro ⟨m, a, b⟩
        rcases Nat.lt_or_ge m j with h | h
        · exact .inl ⟨m, h, b⟩
        · obtain rfl : m = j := by omega
          exact .inr b
    have q1 : l.length - (j + 1) = n := by
      clear hsucc hs h1
      omega
    obtain ⟨out, he, hl2, ho⟩ := ih (j + 1) (x.set j (s || l.getD j false)) (s || l.getD j false) q1 hlt (by simpa using hx) hsucc (by
      intro k hk
      rw [tr_set x j k _ (by omega)]
      rcases Nat.lt_or_ge k j with h | h
      · have : j ≠ k := by omega
        simp only [this, false_and, ne_eq, not_false_eq_true, true_and, false_or]
        exact h1 k h
      · obtain rfl : k = j := by omega
        simp only [true_and, ne_eq, not_true_eq_false, false_and, or_false]
        rw [hsucc]
        exact ⟨fun ⟨m, a, b⟩ => ⟨m, by omega, b⟩, fun ⟨m, a, b⟩ => ⟨m, by omega, b⟩⟩)
    refine ⟨out, Ev.step (fun k => ?_) he, hl2, ho⟩
    simp only [glob_onward.l0]
    rw [if_pos (by omega), if_pos (by omega), if_pos (by omega), rdOf_nat, wrap_of (by omega) (by omega)]
    cases s with
    | true => rw [if_pos rfl, if_pos (by omega)]; simp
    | false => rw [if_neg (by simp), if_pos (by omega)]; simp

theorem onward_ev (l : List Bool) (hl : l.length ≤ 4001) : ∃ out, Ev (fun k => glob_onward.f k l) out ∧ out.length = l.length ∧ ∀ k, k < l.length → (tr out k ↔ ∃ m, m ≤ k ∧ tr l m) := by
  obtain ⟨out, he, h⟩ := onward_l0 l hl _ 0 (List.replicate l.length false) false rfl (Nat.zero_le _) (by simp) (by simp) (fun k hk => by omega)
  refine ⟨out, Ev.congr (fun k => ?_) he, h⟩
  unfold glob_onward.f
  rw [if_pos (by omega), if_pos (by omega)]
  rfl

/-- What the places ahead of j give. -/
def Gives (B : List UInt8) (c : UInt8) (at_ : Nat → Prop) (j k : Nat) : Prop := (k < j ∧ B.getD k 0 = 42 ∧ at_ k) ∨ ∃ m, m < j ∧ k = m + 1 ∧ B.getD m 0 ≠ 42 ∧ fits c (B.getD m 0) ∧ at_ m
theorem Gives_all (B : List UInt8) (c : UInt8) (at_ : Nat → Prop) (k : Nat) (hk : k ≤ B.length) : Gives B c at_ B.length k ↔ Pre B c at_ k := by
  unfold Gives
  cases k with
  | zero =>
    simp only [Pre]
    constructor
    · rintro (⟨_, h⟩ | ⟨m, _, e, _⟩)
      · exact h
      · cases e
    · intro h; exact .inl ⟨lt_of_getD h.1, h⟩
  | succ k =>
    simp only [Pre]
    constructor
    · rintro (⟨_, h⟩ | ⟨m, _, e, h⟩)
      · exact .inl h
      · obtain rfl : k = m := by omega
        exact .inr h
    · rintro (h | h)
      · exact .inl ⟨lt_of_getD h.1, h⟩
      · exact .inr ⟨k, by omega, rfl, h⟩
theorem Gives_succ (B : List UInt8) (c : UInt8) (at_ : Nat → Prop) (j k : Nat) : Gives B c at_ (j + 1) k ↔ Gives B c at_ j k ∨ (k = j ∧ B.getD j 0 = 42 ∧ at_ j) ∨ (k = j + 1 ∧ B.getD j 0 ≠ 42 ∧ fits c (B.getD j 0) ∧ at_ j) := by
  unfold Gives
  constructor
  · rintro (⟨h, a⟩ | ⟨m, h, e, a⟩)
    · rcases Nat.lt_or_ge k j with h' | h'
      · exact .inl (.inl ⟨h', a⟩)
      · obtain rfl : k = j := by omega
        exact .inr (.inl ⟨rfl, a⟩)
    · rcases Nat.lt_or_ge m j with h' | h'
      · exact .inl (.inr ⟨m, h', e, a⟩)
      · obtain rfl : m = j := by omega
        exact .inr (.inr ⟨e, a⟩)
  · rintro ((⟨h, a⟩ | ⟨m, h, e, a⟩) | ⟨rfl, a⟩ | ⟨e, a⟩)
    · exact .inl ⟨by omega, a⟩
    · exact .inr ⟨m, by omega, e, a⟩
    · exact .inl ⟨by omega, a⟩
    · exact .inr ⟨j, by omega, e, a⟩

theorem past_l0 (b : ByteArray) (hb : b.size ≤ 4000) (l : List Bool) (hl : l.length = b.size + 1) (c : UInt8) (n : Nat) : ∀ (j : Nat) (x : List Bool), b.size - j = n → j ≤ b.size → x.length = b.size + 1 →
    (∀ k, tr x k ↔ Gives b.data.toList c (tr l) j k) →
    ∃ out, Ev (fun k => glob_past.l0 k b l (c.toNat : Int) x b.size j) out ∧ out.length = b.size + 1 ∧ ∀ k, k ≤ b.size → (tr out k ↔ Cl b.data.toList (Pre b.data.toList c (tr l)) k) := by
  have lb := len_of b
  induction n with
  | zero =>
    intro j x hn hj hx h1
    obtain rfl : j = b.size := by omega
    obtain ⟨out, he, hl2, ho⟩ := spread_ev b hb x hx
    refine ⟨out, Ev.step (f := fun k => (glob_spread.f k b x).bind fun t119 => (some t119)) (fun k => ?_) (Ev.bind he (Ev.now _)), hl2, fun k hk => ?_⟩
    · simp only [glob_past.l0]; rw [if_neg (by omega)]
    · rw [ho k hk]
      have hcl : ∀ k, k ≤ b.size → (Cl b.data.toList (tr x) k ↔ Cl b.data.toList (Pre b.data.toList c (tr l)) k) := by
        intro k
        induction k with
        | zero =>
          intro hk
          simp only [Cl]
          rw [h1, ← lb, Gives_all _ _ _ _ (by omega)]
        | succ k ih =>
          intro hk
          simp only [Cl]
          rw [h1, ih (by omega), ← lb, Gives_all _ _ _ _ (by omega)]
      exact hcl k hk
  | succ n ih =>
    intro j x hn hj hx h1
    have hlt : j < b.size := by omega
    have key : ∀ x' : List Bool, x'.length = b.size + 1 → (∀ k, tr x' k ↔ Gives b.data.toList c (tr l) (j + 1) k) → (∀ k, glob_past.l0 (k + 1) b l (c.toNat : Int) x b.size j = glob_past.l0 k b l (c.toNat : Int) x' b.size ((j + 1 : Nat) : Int)) →
        ∃ out, Ev (fun k => glob_past.l0 k b l (c.toNat : Int) x b.size j) out ∧ out.length = b.size + 1 ∧ ∀ k, k ≤ b.size → (tr out k ↔ Cl b.data.toList (Pre b.data.toList c (tr l)) k) := by
      intro x' hx' h h2
      obtain ⟨out, he, h3⟩ := ih (j + 1) x' (by omega) (by omega) hx' h
      exact ⟨out, Ev.step h2 he, h3⟩
    by_cases ht : l.getD j false = true
    · by_cases hc : b.data.toList.getD j 0 = 42
      · refine key (x.set j true) (by simpa using hx) (fun k => ?_) (fun k => ?_)
        · rw [tr_set x j k true (by omega), h1, Gives_succ]
          have ht' : tr l j := ht
          constructor
          · rintro (⟨e, _⟩ | ⟨_, h⟩)
            · exact .inr (.inl ⟨e.symm, hc, ht'⟩)
            · exact .inl h
          · rintro (h | ⟨e, _⟩ | ⟨_, h, _⟩)
            · rcases Nat.decEq j k with e | e
              · exact .inr ⟨e, h⟩
              · exact .inl ⟨e, rfl⟩
            · exact .inl ⟨e.symm, rfl⟩
            · exact absurd hc h
        · simp only [glob_past.l0]
          rw [if_pos (by omega), if_pos (by omega), if_pos (by omega), rdOf_nat, if_pos ht, if_pos (by omega), bt_getD, if_pos ((u8_42 _).2 hc), if_pos (by omega), wrap_of (by omega) (by omega)]
          rfl
      · by_cases hf : fits c (b.data.toList.getD j 0)
        · have e1 : ∀ k, tr (x.set (j + 1) true) k ↔ Gives b.data.toList c (tr l) (j + 1) k := by
            intro k
            rw [tr_set x (j + 1) k true (by omega), h1, Gives_succ]
            have ht' : tr l j := ht
            constructor
            · rintro (⟨e, _⟩ | ⟨_, h⟩)
              · exact .inr (.inr ⟨e.symm, hc, hf, ht'⟩)
              · exact .inl h
            · rintro (h | ⟨_, h, _⟩ | ⟨e, _⟩)
              · rcases Nat.decEq (j + 1) k with e | e
                · exact .inr ⟨e, h⟩
                · exact .inl ⟨e, rfl⟩
              · exact absurd h hc
              · exact .inl ⟨e.symm, rfl⟩
          refine key (x.set (j + 1) true) (by simpa using hx) e1 (fun k => ?_)
          simp only [glob_past.l0]
          rw [if_pos (by omega), if_pos (by omega), if_pos (by omega), rdOf_nat, if_pos ht, if_pos (by omega), bt_getD, if_neg (fun e => hc ((u8_42 _).1 e)), wrap_of (by omega) (by omega)]
          have hin : (if 0 ≤ (j : Int) + 1 then (if (j : Int) + 1 < (x.length : Int) then (glob_past.l0 k b l (c.toNat : Int) (x.set ((j : Int) + 1).toNat true) (b.size : Int) ((j : Int) + 1)) else none) else none) = glob_past.l0 k b l (c.toNat : Int) (x.set (j + 1) true) b.size ((j + 1 : Nat) : Int) := by
            rw [if_pos (by omega), if_pos (by omega)]; rfl
          rw [hin]
          by_cases h63 : c = 63
          · rw [if_pos ((u8_63 _).2 h63)]
          · rw [if_neg (fun e => h63 ((u8_63 _).1 e))]
            by_cases h64 : b.data.toList.getD j 0 = 63
            · rw [if_pos ((u8_63 _).2 h64)]
            · rw [if_neg (fun e => h64 ((u8_63 _).1 e)), if_pos ((u8_eq _ _).2 ((hf.resolve_left h63).resolve_left h64))]
        · refine key x hx (fun k => ?_) (fun k => ?_)
          · rw [h1, Gives_succ]; simp only [hc, hf, false_and, and_false, or_false]
          · simp only [glob_past.l0]
            rw [if_pos (by omega), if_pos (by omega), if_pos (by omega), rdOf_nat, if_pos ht, if_pos (by omega), bt_getD, if_neg (fun e => hc ((u8_42 _).1 e)), wrap_of (by omega) (by omega),
              if_neg (fun e => hf (.inl ((u8_63 _).1 e))), if_neg (fun e => hf (.inr (.inl ((u8_63 _).1 e)))), if_neg (fun e => hf (.inr (.inr ((u8_eq _ _).1 e))))]
            rfl
    · refine key x hx (fun k => ?_) (fun k => ?_)
      · have ht' : ¬ tr l j := ht
        rw [h1, Gives_succ]; simp only [ht', and_false, or_false]
      · simp only [glob_past.l0]
        rw [if_pos (by omega), if_pos (by omega), if_pos (by omega), rdOf_nat, if_neg ht, wrap_of (by omega) (by omega)]
        rfl

theorem past_ev (b : ByteArray) (hb : b.size ≤ 4000) (l : List Bool) (hl : l.length = b.size + 1) (c : UInt8) :
    ∃ out, Ev (fun k => glob_past.f k b l (c.toNat : Int)) out ∧ out.length = b.size + 1 ∧ ∀ k, k ≤ b.size → (tr out k ↔ Cl b.data.toList (Pre b.data.toList c (tr l)) k) := by
  obtain ⟨out, he, h⟩ := past_l0 b hb l hl c _ 0 (List.replicate l.length false) rfl (Nat.zero_le _) (by simpa using hl) (fun k => by
    have : ¬ tr (List.replicate l.length false) k := by
      unfold tr
      rw [List.getD_eq_getElem?_getD, List.getElem?_replicate]
      split <;> simp
    simp [this, Gives])
  refine ⟨out, Ev.congr (fun k => ?_) he, h⟩
  unfold glob_past.f
  rw [if_pos (by omega), if_pos (by omega)]
  rfl

open Classical in
/-- Do two patterns match a text in common? -/
noncomputable def MeetB (A B : List UInt8) : Bool := decide (Meet A B)
theorem MeetB_iff (A B : List UInt8) : MeetB A B = true ↔ Meet A B := by simp [MeetB]

theorem Cl_congr (B : List UInt8) (p q : Nat → Prop) (n : Nat) (h : ∀ k, k ≤ n → (p k ↔ q k)) : ∀ k, k ≤ n → (Cl B p k ↔ Cl B q k) := by
  intro k
  induction k with
  | zero => intro hk; exact h 0 hk
  | succ k ih => intro hk; simp only [Cl]; rw [h _ hk, ih (by omega)]
theorem Pre_congr (B : List UInt8) (c : UInt8) (p q : Nat → Prop) (n : Nat) (h : ∀ k, k ≤ n → (p k ↔ q k)) : ∀ k, k ≤ n → (Pre B c p k ↔ Pre B c q k) := by
  intro k hk
  cases k with
  | zero => simp only [Pre]; rw [h 0 hk]
  | succ k => simp only [Pre]; rw [h _ hk, h k (by omega)]

theorem meets_l0 (a b : ByteArray) (ha : a.size ≤ 4000) (hb : b.size ≤ 4000) (n : Nat) : ∀ (i : Nat) (x : List Bool), a.size - i = n → i ≤ a.size → x.length = b.size + 1 →
    (∀ k, k ≤ b.size → (tr x k ↔ Both a.data.toList b.data.toList i k)) →
    Ev (fun k => glob_Meets.l0 k a b x a.size i) (MeetB a.data.toList b.data.toList) := by
  have la := len_of a
  have lb := len_of b
  induction n with
  | zero =>
    intro i x hn hi hx h1
    obtain rfl : i = a.size := by omega
    have e : x.getD b.size false = MeetB a.data.toList b.data.toList := by
      rw [Bool.eq_iff_iff, MeetB_iff, ← Both_end, la, lb]
      exact h1 b.size (Nat.le_refl _)
    refine Ev.step (f := fun _ => some (x.getD b.size false)) (fun k => ?_) (by rw [e]; exact Ev.now _)
    simp only [glob_Meets.l0]
    rw [if_neg (by omega), if_pos (by omega), if_pos (by omega), rdOf_nat]
  | succ n ih =>
    intro i x hn hi hx h1
    have hlt : i < a.size := by omega
    by_cases hc : a.data.toList.getD i 0 = 42
    · obtain ⟨out, he, hl, ho⟩ := onward_ev x (by omega)
      refine Ev.step (f := fun k => (glob_onward.f k x).bind fun t135 => (glob_Meets.l0 k a b t135 a.size ((i + 1 : Nat) : Int))) (fun k => ?_) (Ev.bind he (ih (i + 1) out (by omega) (by omega) (by omega) (fun k hk => ?_)))
      · simp only [glob_Meets.l0]
        rw [if_pos (by omega), if_pos (by omega), if_pos (by omega), bt_getD, if_pos ((u8_42 _).2 hc), wrap_of (by omega) (by omega)]
        rfl
      · rw [ho k (by omega), Both_star _ _ i hc k (by omega)]
        constructor
        · rintro ⟨m, hm, h⟩; exact ⟨m, hm, (h1 m (by omega)).1 h⟩
        · rintro ⟨m, hm, h⟩; exact ⟨m, hm, (h1 m (by omega)).2 h⟩
    · obtain ⟨out, he, hl, ho⟩ := past_ev b hb x hx (a.data.toList.getD i 0)
      refine Ev.step (f := fun k => (glob_past.f k b x ((a.data.toList.getD i 0).toNat : Int)).bind fun t138 => (glob_Meets.l0 k a b t138 a.size ((i + 1 : Nat) : Int))) (fun k => ?_) (Ev.bind he (ih (i + 1) out (by omega) (by omega) (by omega) (fun k hk => ?_)))
      · simp only [glob_Meets.l0]
        rw [if_pos (by omega), if_pos (by omega), if_pos (by omega), bt_getD, if_neg (fun e => hc ((u8_42 _).1 e)), wrap_of (by omega) (by omega)]
        rfl
      · rw [ho k (by omega), Both_one _ _ i (by omega) hc k (by omega)]
        exact Cl_congr _ _ _ b.size (Pre_congr _ _ _ _ b.size h1) k hk

theorem meets_ev (a b : ByteArray) (ha : a.size ≤ 4000) (hb : b.size ≤ 4000) : Ev (fun k => glob_Meets.f k a b) (MeetB a.data.toList b.data.toList) := by
  have lb := len_of b
  obtain ⟨out, he, hl, ho⟩ := spread_ev b hb ((List.replicate (b.size + 1) false).set 0 true) (by simp)
  have h := meets_l0 a b ha hb _ 0 out rfl (Nat.zero_le _) hl (fun k hk => by
    rw [ho k hk, Both_zero _ _ k (by omega)]
    refine Cl_congr _ _ _ b.size (fun k hk => ?_) k hk
    rw [tr_set _ _ _ _ (by simp)]
    have : ¬ tr (List.replicate (b.size + 1) false) k := by
      unfold tr
      rw [List.getD_eq_getElem?_getD, List.getElem?_replicate]
      split <;> simp
    simp [this, eq_comm])
  refine Ev.congr (f := fun k => (glob_spread.f k b ((List.replicate (b.size + 1) false).set 0 true)).bind fun t => glob_Meets.l0 k a b t a.size ((0 : Nat) : Int)) (fun k => ?_) (Ev.bind he h)
  unfold glob_Meets.f
  rw [wrap_of (by omega) (by omega), if_pos (by omega), if_pos (by omega)]
  simp only [Option.bind_some]
  rw [if_pos (by simp)]
  rfl
end Go.Proofs.Ytbdaledkkbkhgaa.GlobPure
