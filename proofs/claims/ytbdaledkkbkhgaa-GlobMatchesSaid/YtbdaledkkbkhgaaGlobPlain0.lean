/- What glob.Plain and glob.Least compute, in plain words. -/
import Derived.Test.YtbdaledkkbkhgaaPGlobx2
import Derived.Test.YtbdaledkkbkhgaaGlobBase
namespace Go.Proofs.Ytbdaledkkbkhgaa.GlobPure
open Go.RowKit Go.Proofs.Ytbdaledkkbkhgaa.PGlob Go.Proofs.YtbdaledkkbkhgaaW.PrintWords Go.Proofs.YtbdaledkkbkhgaaW.PrintLast Go.Proofs.Ytbdaledkkbkhgaa.GlobMath Go.Proofs.Ytbdaledkkbkhgaa.Given

/-- No wildcard stands in a pattern. -/
def PlainB (P : List UInt8) : Bool := P.all fun c => c != 42 && c != 63
theorem PlainB_iff (P : List UInt8) : PlainB P = true ↔ ∀ c ∈ P, c ≠ 42 ∧ c ≠ 63 := by simp [PlainB]

theorem cont_high {x : Nat} (h : (x / 64 == 2) = true) : 128 ≤ x := by
  have := beq_iff_eq.1 h
  omega
/-- The bytes of a rune of several bytes are no ASCII. -/
theorem decode_skips (s : ByteArray) (pos : Nat) (ha : 128 ≤ (s.get! pos).toNat) (j : Nat) (h1 : pos ≤ j) (h2 : j < pos + (Utf8.decode s pos).2) : 128 ≤ (s.get! j).toNat := by
  have hn : ¬ (s.get! (pos + 0)).toNat < 128 := by simpa using ha
  have one : j < pos + 1 → 128 ≤ (s.get! j).toNat := by
    intro h
    obtain rfl : j = pos := by omega
    exact ha
  simp only [Utf8.decode, hn, if_false] at h2
  split at h2
  · rename_i hc
    simp only [Bool.and_eq_true] at hc
    split at h2
    · rcases Nat.lt_or_ge j (pos + 1) with h | h
      · exact one h
      · obtain rfl : j = pos + 1 := by simp at h2; omega
        exact cont_high hc.2.2
    · exact one (by simpa using h2)
  · split at h2
    · rename_i hc
      simp only [Bool.and_eq_true] at hc
      split at h2
      · rcases Nat.lt_or_ge j (pos + 1) with h | h
        · exact one h
        · have h2' : j < pos + 3 := by simpa using h2
          have : j = pos + 1 ∨ j = pos + 2 := by omega
          rcases this with rfl | rfl
          · exact cont_high hc.1.2.2
          · exact cont_high hc.2.2
      · exact one (by simpa using h2)
    · split at h2
      · rename_i hc
        simp only [Bool.and_eq_true] at hc
        split at h2
        · rcases Nat.lt_or_ge j (pos + 1) with h | h
          · exact one h
          · have h2' : j < pos + 4 := by simpa using h2
            have : j = pos + 1 ∨ j = pos + 2 ∨ j = pos + 3 := by omega
            rcases this with rfl | rfl | rfl
            · exact cont_high hc.1.1.2.2
            · exact cont_high hc.1.2.2
            · exact cont_high hc.2.2
        · exact one (by simpa using h2)
      · exact one (by simpa using h2)

theorem get_getD (s : ByteArray) (j : Nat) (h : j < s.size) : s.get! j = s.data.toList.getD j 0 := by
  have h2 : j < s.data.toList.length := by simpa using h
  rw [List.getD_eq_getElem?_getD, List.getElem?_eq_getElem h2]
  simp [ByteArray.get!, getElem!_pos, h]

/-- A test that is false of what is no ASCII, over a text's bytes from a place on: the places of no ASCII are passed over. -/
theorem any_skip (f : UInt8 → Bool) (hf : ∀ c : UInt8, 128 ≤ c.toNat → f c = false) (L : List UInt8) (pos n : Nat) (h : ∀ j, pos ≤ j → j < pos + n → j < L.length → 128 ≤ (L.getD j 0).toNat) : (L.drop pos).any f = (L.drop (pos + n)).any f := by
  induction n with
  | zero => rfl
  | succ n ih =>
    rw [ih (fun j a b c => h j a (by omega) c)]
    rcases Nat.lt_or_ge (pos + n) L.length with hl | hl
    · rw [drop_cons L (pos + n) hl, List.any_cons, hf _ (h (pos + n) (by omega) (by omega) hl)]
      simp [Nat.add_assoc]
    · rw [List.drop_of_length_le hl, List.drop_of_length_le (by omega)]

/-- Runes that are ASCII are looked for among a text's runes just as among its bytes. -/
theorem runes_any (s : ByteArray) (g : Int → Bool) (hg : ∀ c : Int, 128 ≤ c → g c = false) (b : Nat) : ∀ pos, s.size ≤ pos + b →
    (runesOf s b pos).any g = (s.data.toList.drop pos).any (fun c => g (c.toNat : Int)) := by
  induction b with
  | zero =>
    intro pos h
    rw [List.drop_of_length_le (by rw [len_of]; omega)]
    rfl
  | succ b ih =>
    intro pos h
    by_cases hp : pos < s.size
    · have hw := rune_width s pos hp
      simp only [runesOf, hp, if_true, List.any_cons]
      rw [ih _ (by omega)]
      have hlen : pos < s.data.toList.length := by rw [len_of]; exact hp
      by_cases ha : (s[pos]'hp).toNat < 128
      · rw [decode_ascii s pos hp ha, drop_cons s.data.toList pos hlen, List.any_cons]
        congr 2
        rw [List.getD_eq_getElem?_getD, List.getElem?_eq_getElem hlen]
        simp
        rfl
      · obtain ⟨h1, _⟩ := decode_high s pos hp (by omega)
        rw [hg _ (by omega), Bool.false_or]
        refine (any_skip _ (fun c hc => hg _ (by omega)) s.data.toList pos _ ?_).symm
        intro j a b c
        have hj : j < s.size := by rw [len_of] at c; exact c
        rw [← get_getD s j hj]
        refine decode_skips s pos ?_ j a b
        have : s.get! pos = s[pos]'hp := by simpa using get_at s pos hp
        rw [this]
        omega
    · rw [runesOf_end s _ pos hp, List.drop_of_length_le (by rw [len_of]; omega)]
      rfl

theorem isIn_wild (c : Int) : isIn ⟨#[42, 63]⟩ (⟨#[42, 63]⟩ : ByteArray).size 0 c = (c == 42 || c == 63) := by
  have : runesOf ⟨#[42, 63]⟩ (⟨#[42, 63]⟩ : ByteArray).size 0 = [42, 63] := by decide +kernel
  simp [isIn, this]

theorem plain_eq (s : ByteArray) : glob_Plain.f s = some (PlainB s.data.toList) := by
  have h : hasAnyB s ⟨#[42, 63]⟩ = s.data.toList.any (fun c => c == 42 || c == 63) := by
    unfold hasAnyB someIn
    rw [show (fun c => isIn ⟨#[42, 63]⟩ (⟨#[42, 63]⟩ : ByteArray).size 0 c) = fun c : Int => (c == 42 || c == 63) from funext isIn_wild]
    rw [runes_any s _ (fun c hc => by simp; omega) s.size 0 (by omega), List.drop_zero]
    congr 1
    funext c
    rw [beq_dec, beq_dec, decide_eq_decide.2 (u8_42 c), decide_eq_decide.2 (u8_63 c)]
    rfl
  unfold glob_Plain.f glob_hasAny.f
  rw [h]
  simp [PlainB, List.all_eq_not_any_not, bne]

theorem countByte_star (P : List UInt8) : Go.Lib.countByte P 42 + least P = P.length := by
  induction P with
  | nil => rfl
  | cons c P ih =>
    unfold Go.Lib.countByte least at *
    by_cases h : c = 42
    · subst h
      simp only [List.count_cons_self, List.length_cons, List.filter_cons]
      simp
      omega
    · simp only [List.count_cons_of_ne h, List.length_cons, List.filter_cons]
      simp [h]
      omega
theorem least_eq (s : ByteArray) (hs : s.size ≤ 9223372036854775807) : glob_Least.f s = some ((least s.data.toList : Nat) : Int) := by
  have h := countByte_star s.data.toList
  rw [len_of] at h
  unfold glob_Least.f strings_Count.f
  rw [if_pos rfl]
  simp only [Option.bind_some]
  rw [wrap_of (by omega) (by omega)]
  congr 1
  omega
end Go.Proofs.Ytbdaledkkbkhgaa.GlobPure
