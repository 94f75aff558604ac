/- kind.Element and kind.Text. -/
import Derived.Test.YtmamaijiphdggaaDoorRightC
namespace Go.Proofs.YtmamaijiphdggaaDoor.Given
set_option linter.unusedVariables false
set_option linter.unusedSimpArgs false
open Go.RowKit Go.Lib
open Go.Proofs.YtmamaijiphdggaaDoorW.PrintWords

theorem elem4_calls (c : ByteArray) (w : World) :
    Calls Tryd.prog 96 #[.agg #[.int .i64 4, .string c]] w fun e w' => e = .returned (.agg #[.int .i64 2, .string ⟨#[]⟩]) ∧ Below w.heap.size w w' := by
  go_enter Tryd.func96, Tryd.ntmps96
  go_wp2
  refine bodyPost_ret (v := .agg #[.int .i64 2, .string ⟨#[]⟩]) (by simp [results, Tryd.results96, go_sem]) rfl ?_
  exact ⟨rfl, ((Below.refl _ _).alloc (Nat.le_refl _) _).alloc (by simp) _⟩
theorem elem5_calls (c : ByteArray) (w : World) :
    Calls Tryd.prog 96 #[.agg #[.int .i64 5, .string c]] w fun e w' => e = .returned (.agg #[.int .i64 3, .string c]) ∧ Below w.heap.size w w' := by
  go_enter Tryd.func96, Tryd.ntmps96
  go_wp2
  refine bodyPost_ret (v := .agg #[.int .i64 3, .string c]) (by simp [results, Tryd.results96, go_sem]) rfl ?_
  exact ⟨rfl, ((Below.refl _ _).alloc (Nat.le_refl _) _).alloc (by simp) _⟩

def textT (k : Int) (c : ByteArray) : ByteArray :=
  if rightT k c = false then ⟨#[]⟩ else if k = 1 then ⟨#[86]⟩ else if k = 2 then ⟨#[73]⟩ else if k = 3 then (⟨#[76]⟩ ++ c) ++ ⟨#[59]⟩ else if k = 4 then ⟨#[91]⟩ ++ ⟨#[73]⟩ else ⟨#[91]⟩ ++ ((⟨#[76]⟩ ++ c) ++ ⟨#[59]⟩)
theorem text_no (k : Int) (c : ByteArray) (hs : c.size ≤ 1000000) (hr : rightT k c = false) (w : World) :
    Calls Tryd.prog 72 #[.agg #[.int .i64 k, .string c]] w fun e w' => e = .returned (.string ⟨#[]⟩) ∧ Below w.heap.size w w' := by
  have hB : Below w.heap.size w (w.alloc (.cells #[.int .i64 k, .string c] 75)) := (Below.refl _ _).alloc (Nat.le_refl _) _
  have H := hid (fun w => Right_calls k c (by omega) w)
  rw [hr] at H
  clear hr
  go_enter Tryd.func72, Tryd.ntmps72
  go_wp2_with (go_at_call 88; refine (H.out _).mono ?_; rintro e w' ⟨rfl, rfl⟩)
  go_ret
  exact ⟨rfl, hB.alloc hB.size _⟩
theorem text_123 (k : Int) (c : ByteArray) (hs : c.size ≤ 1000000) (hr : rightT k c = true) (hk : k = 1 ∨ k = 2 ∨ k = 3) (w : World) :
    Calls Tryd.prog 72 #[.agg #[.int .i64 k, .string c]] w fun e w' => e = .returned (.string (textT k c)) ∧ Below w.heap.size w w' := by
  have hB : Below w.heap.size w (w.alloc (.cells #[.int .i64 k, .string c] 75)) := (Below.refl _ _).alloc (Nat.le_refl _) _
  have H := hid (fun w => Right_calls k c (by omega) w)
  obtain ⟨r, HT⟩ : ∃ r, Hid (r = textT k c) := ⟨_, hid rfl⟩
  rw [show textT k c = r from HT.out.symm]
  replace HT := hid (HT.out.trans (by unfold textT; rw [hr]))
  rw [hr] at H
  clear hr
  rcases hk with rfl | rfl | rfl
  all_goals
    go_enter Tryd.func72, Tryd.ntmps72
    go_wp2_with (go_at_call 88; refine (H.out _).mono ?_; rintro e w' ⟨rfl, rfl⟩)
    go_ret
    exact ⟨by rw [HT.out]; rfl, hB.alloc hB.size _⟩
theorem text_calls (k : Int) (c : ByteArray) (hs : c.size ≤ 1000000) (w : World) :
    Calls Tryd.prog 72 #[.agg #[.int .i64 k, .string c]] w fun e w' => e = .returned (.string (textT k c)) ∧ Below w.heap.size w w' := by
  cases hr : rightT k c with
  | false =>
    have e : textT k c = ⟨#[]⟩ := by unfold textT; rw [hr]; rfl
    rw [e]
    exact text_no k c hs hr w
  | true =>
    have hk : k = 1 ∨ k = 2 ∨ k = 3 ∨ k = 4 ∨ k = 5 := by
      unfold rightT at hr
      split at hr
      · omega
      · simp at hr; omega
    have hB : Below w.heap.size w (w.alloc (.cells #[.int .i64 k, .string c] 75)) := (Below.refl _ _).alloc (Nat.le_refl _) _
    have H := hid (fun w => Right_calls k c (by omega) w)
    rw [hr] at H
    rcases hk with h | h | h | rfl | rfl
    · exact text_123 k c hs hr (.inl h) w
    · exact text_123 k c hs hr (.inr (.inl h)) w
    · exact text_123 k c hs hr (.inr (.inr h)) w
    · have r2 : rightT 2 ⟨#[]⟩ = true := by decide +kernel
      have H2 := hid (fun w => text_123 2 ⟨#[]⟩ (by decide) r2 (.inr (.inl rfl)) w)
      have H3 := hid (fun w => elem4_calls c w)
      have e2 : textT 2 ⟨#[]⟩ = ⟨#[73]⟩ := by unfold textT; rw [r2]; rfl
      have e4 : Hid (textT 4 c = ⟨#[91]⟩ ++ ⟨#[73]⟩) := hid (by unfold textT; rw [hr]; rfl)
      rw [e2] at H2
      clear hr r2 e2
      generalize textT 4 c = r at *
      go_enter Tryd.func72, Tryd.ntmps72
      go_wp2_with (first
        | (go_at_call 88; refine (H.out _).mono ?_; rintro e w1 ⟨rfl, rfl⟩
           replace hB := hB.alloc hB.size (.cells #[.int .i64 4, .string c] 75))
        | (go_at_call 96; refine (H3.out _).mono ?_; rintro e w2 ⟨rfl, hb2⟩
           replace hB := hB.trans (hb2.mono hB.size))
        | (go_at_call 72; refine (H2.out _).mono ?_; rintro e w3 ⟨rfl, hb3⟩
           replace hB := hB.trans (hb3.mono hB.size)))
      go_ret
      exact ⟨by rw [e4.out]; rfl, hB⟩
    · have r3 : rightT 3 c = true := by
        unfold rightT at hr ⊢
        rw [if_pos (.inr rfl)] at hr
        rw [if_pos (.inl rfl)]; exact hr
      have H2 := hid (fun w => text_123 3 c hs r3 (.inr (.inr rfl)) w)
      have H3 := hid (fun w => elem5_calls c w)
      have e5 : Hid (textT 5 c = ⟨#[91]⟩ ++ textT 3 c) := hid (by unfold textT; rw [hr, r3]; rfl)
      have hq : (textT 3 c).size ≤ 1000002 := by
        unfold textT
        rw [r3]
        have a1 : (⟨#[76]⟩ : ByteArray).size = 1 := rfl
        have a2 : (⟨#[59]⟩ : ByteArray).size = 1 := rfl
        simp
        omega
      clear hr r3
      generalize textT 5 c = r at *
      generalize textT 3 c = q at *
      go_enter Tryd.func72, Tryd.ntmps72
      go_wp2_with (first
        | (go_at_call 88; refine (H.out _).mono ?_; rintro e w1 ⟨rfl, rfl⟩
           replace hB := hB.alloc hB.size (.cells #[.int .i64 5, .string c] 75))
        | (go_at_call 96; refine (H3.out _).mono ?_; rintro e w2 ⟨rfl, hb2⟩
           replace hB := hB.trans (hb2.mono hB.size))
        | (go_at_call 72; refine (H2.out _).mono ?_; rintro e w3 ⟨rfl, hb3⟩
           replace hB := hB.trans (hb3.mono hB.size)))
      go_ret
      exact ⟨by rw [e5.out]; rfl, hB⟩
end Go.Proofs.YtmamaijiphdggaaDoor.Given
