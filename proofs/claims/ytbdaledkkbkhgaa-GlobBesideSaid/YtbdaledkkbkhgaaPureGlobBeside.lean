/- Two patterns one behind the other match a text just if it can be cut so that each matches its part: what the law's printed function answers. -/
import Derived.Test.YtbdaledkkbkhgaaPGlobx6
import Derived.Test.YtbdaledkkbkhgaaGlobBase
namespace Go.Proofs.Ytbdaledkkbkhgaa.Pure
open Go.RowKit Go.Proofs.Ytbdaledkkbkhgaa.PGlob Go.Proofs.YtbdaledkkbkhgaaW.PrintWords Go.Proofs.YtbdaledkkbkhgaaW.PrintLast Go.Proofs.Ytbdaledkkbkhgaa.GlobMath Go.Proofs.Ytbdaledkkbkhgaa.GlobPure

theorem ext_take (s : ByteArray) (i : Nat) : (s.extract 0 i).data.toList = s.data.toList.take i := by
  simp [ByteArray.data_extract, Array.toList_extract]
theorem ext_drop (s : ByteArray) (i : Nat) : (s.extract i s.size).data.toList = s.data.toList.drop i := by
  simp [ByteArray.data_extract, Array.toList_extract]
  exact List.take_of_length_le (by simp)
theorem cat_list (s t : ByteArray) : (s ++ t).data.toList = s.data.toList ++ t.data.toList := by simp

/-- Can the text be cut ahead of place i so that each part is matched? -/
def Cut (p q s : ByteArray) (i : Nat) : Prop := ∃ c, c < i ∧ c ≤ s.size ∧ Mt p.data.toList (s.data.toList.take c) ∧ Mt q.data.toList (s.data.toList.drop c)

theorem cut_all (p q s : ByteArray) : Cut p q s (s.size + 1) ↔ Mt (p.data.toList ++ q.data.toList) s.data.toList := by
  rw [Mt_append]
  constructor
  · rintro ⟨c, _, _, h1, h2⟩
    exact ⟨_, _, (List.take_append_drop c _).symm, h1, h2⟩
  · rintro ⟨u, t, hs, h1, h2⟩
    have hl : s.size = u.length + t.length := by rw [← len_of, hs, List.length_append]
    refine ⟨u.length, by omega, by omega, ?_, ?_⟩
    · rw [hs, List.take_left]; exact h1
    · rw [hs, List.drop_left]; exact h2

theorem beside_l0 (p q s : ByteArray) (hp : p.size ≤ 80) (hq : q.size ≤ 80) (hs : s.size ≤ 80) (n : Nat) : ∀ (i : Nat) (b : Bool), s.size + 1 - i = n → i ≤ s.size + 1 → (b = true ↔ Cut p q s i) →
    Ev (fun k => secateurlaw21_GlobBeside.l0 k p q s b i) true := by
  induction n with
  | zero =>
    intro i b hn hi hb
    obtain rfl : i = s.size + 1 := by omega
    refine Ev.step (f := fun k => (secateurlaw21_live.f k).bind fun t204 => (if t204 = true then (if p.size + q.size ≤ 9223372036854775807 then ((glob_Match.f k (p ++ q) s).bind fun t205 => (some (t205 == b))) else (none)) else (some false))) (fun k => ?_) ?_
    · simp only [secateurlaw21_GlobBeside.l0]
      rw [if_neg (by omega)]
    · refine Ev.bind live_ev ?_
      refine Ev.congr (f := fun k => ((glob_Match.f k (p ++ q) s).bind fun t205 => (some (t205 == b)))) (fun k => by rw [if_pos rfl, if_pos (by omega)]) ?_
      refine Ev.bind (match_ev (p ++ q) s (by simp; omega) (by omega)) ?_
      have : (MtB (p ++ q).data.toList s.data.toList == b) = true := by
        rw [beq_iff_eq, Bool.eq_iff_iff, MtB_iff, hb, cut_all, cat_list]
      rw [this]
      exact Ev.now _
  | succ n ih =>
    intro i b hn hi hb
    have hle : i ≤ s.size := by omega
    have hsucc : ∀ b' : Bool, (b' = true ↔ b = true ∨ (Mt p.data.toList (s.data.toList.take i) ∧ Mt q.data.toList (s.data.toList.drop i))) → Ev (fun k => secateurlaw21_GlobBeside.l0 k p q s b' ((i + 1 : Nat) : Int)) true := by
      intro b' hb'
      refine ih (i + 1) b' (by omega) (by omega) ?_
      rw [hb', hb]
      constructor
      · rintro (⟨c, h1, h2⟩ | h)
        · exact ⟨c, by omega, h2⟩
        · exact ⟨i, by omega, hle, h⟩
      · rintro ⟨c, h1, h2⟩
        rcases Nat.lt_or_ge c i with h | h
        · exact .inl ⟨c, h, h2⟩
        · obtain rfl : c = i := by omega
          exact .inr h2.2
    cases b with
    | true =>
      refine Ev.step (fun k => ?_) (hsucc true (by simp))
      simp only [secateurlaw21_GlobBeside.l0]
      rw [if_pos (by omega), if_pos trivial, wrap_of (by omega) (by omega)]
      rfl
    | false =>
      refine Ev.step (f := fun k => (glob_Match.f k p (s.extract 0 i)).bind fun t202 => (if t202 = true then ((glob_Match.f k q (s.extract i s.size)).bind fun t203 => (secateurlaw21_GlobBeside.l0 k p q s t203 ((i + 1 : Nat) : Int))) else (secateurlaw21_GlobBeside.l0 k p q s false ((i + 1 : Nat) : Int)))) (fun k => ?_) ?_
      · simp only [secateurlaw21_GlobBeside.l0]
        rw [if_pos (by omega), if_neg (by simp), if_pos (by omega), wrap_of (by omega) (by omega)]
        rfl
      · refine Ev.bind (match_ev p (s.extract 0 i) (by omega) (by simp; omega)) ?_
        cases h1 : MtB p.data.toList (s.extract 0 i).data.toList with
        | true =>
          refine Ev.congr (f := fun k => (glob_Match.f k q (s.extract i s.size)).bind fun t203 => (secateurlaw21_GlobBeside.l0 k p q s t203 ((i + 1 : Nat) : Int))) (fun k => if_pos rfl) ?_
          refine Ev.bind (match_ev q (s.extract i s.size) (by omega) (by simp; omega)) ?_
          refine hsucc _ ?_
          rw [ext_take, MtB_iff] at h1
          rw [ext_drop, MtB_iff]
          simp [h1]
        | false =>
          refine Ev.congr (f := fun k => secateurlaw21_GlobBeside.l0 k p q s false ((i + 1 : Nat) : Int)) (fun k => if_neg (by simp)) ?_
          refine hsucc _ ?_
          rw [ext_take] at h1
          have h2 : ¬ Mt p.data.toList (s.data.toList.take i) := fun h => by rw [MtB_true h] at h1; cases h1
          simp [h2]

theorem GlobBeside : secateurlaw21_GlobBeside.Pure := by
  intro p q s _ _ _
  obtain ⟨p', ep, hp⟩ := cut_some p
  obtain ⟨q', eq, hq⟩ := cut_some q
  obtain ⟨s', es, hs⟩ := cut_some s
  refine Ev.rounds (Ev.congr (f := fun k => secateurlaw21_GlobBeside.l0 k p' q' s' false ((0 : Nat) : Int)) (fun k => ?_) (beside_l0 p' q' s' hp hq hs _ 0 false rfl (Nat.zero_le _) ?_))
  · unfold secateurlaw21_GlobBeside.f
    rw [bind_some_eq ep, bind_some_eq eq, bind_some_eq es]
    rfl
  · simp [Cut]
end Go.Proofs.Ytbdaledkkbkhgaa.Pure
