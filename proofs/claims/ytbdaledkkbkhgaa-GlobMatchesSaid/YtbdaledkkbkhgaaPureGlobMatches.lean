/- Which texts can be patterns, and which texts they match: what the law's printed function answers. -/
import Derived.Test.YtbdaledkkbkhgaaPGlobx6
import Derived.Test.YtbdaledkkbkhgaaGlobRefMatch
namespace Go.Proofs.Ytbdaledkkbkhgaa.Pure
set_option linter.unusedVariables false
set_option linter.unusedSimpArgs false
open Go.RowKit Go.Proofs.Ytbdaledkkbkhgaa.PGlob Go.Proofs.YtbdaledkkbkhgaaW.PrintWords Go.Proofs.YtbdaledkkbkhgaaW.PrintLast Go.Proofs.Ytbdaledkkbkhgaa.GlobMath Go.Proofs.Ytbdaledkkbkhgaa.GlobPure

def okByte (c : UInt8) : Bool := decide (32 < c.toNat) && decide (c.toNat ≤ 126)
def RightB (s : ByteArray) : Bool := decide (1 ≤ s.size) && decide (s.size ≤ 64)
theorem drop_all (f : UInt8 → Bool) (L : List UInt8) (i : Nat) (h : i < L.length) : (L.drop i).all f = (f (L.getD i 0) && (L.drop (i + 1)).all f) := by
  rw [drop_cons L i h, List.all_cons]

theorem right_l0 (s : ByteArray) (hs : s.size ≤ 4000) (n : Nat) : ∀ i : Nat, s.size - i = n → i ≤ s.size →
    Ev (fun k => glob_Right.l0 k s s.size i) ((s.data.toList.drop i).all okByte && RightB s) := by
  have ls := len_of s
  induction n with
  | zero =>
    intro i hn hi
    obtain rfl : i = s.size := by omega
    refine Ev.step (f := fun _ => some (RightB s)) (fun k => ?_) (by rw [List.drop_of_length_le (by omega)]; exact Ev.now _)
    simp only [glob_Right.l0]
    rw [if_neg (by omega)]
    unfold RightB
    by_cases h : s.size = 0
    · rw [if_pos (by rw [ByteArray.toList_eq]; exact List.eq_nil_of_length_eq_zero (by omega)), decide_eq_false (by omega : ¬ 1 ≤ s.size)]
      rfl
    · rw [if_neg (by rw [ByteArray.toList_eq]; intro e; rw [e] at ls; simp at ls; omega), decide_eq_true (by omega : 1 ≤ s.size), Bool.true_and]
      congr 1
      exact decide_eq_decide.2 (by omega)
  | succ n ih =>
    intro i hn hi
    rw [drop_all _ _ i (by omega)]
    have one : ∀ k, glob_Right.l0 (k + 1) s s.size i = if okByte (s.data.toList.getD i 0) = true then glob_Right.l0 k s s.size ((i + 1 : Nat) : Int) else some false := by
      intro k
      simp only [glob_Right.l0]
      rw [if_pos (by omega), if_pos (by omega), if_pos (by omega), bt_getD, wrap_of (by omega) (by omega)]
      unfold okByte
      by_cases h1 : (s.data.toList.getD i 0).toNat ≤ 32
      · rw [if_pos (by omega), decide_eq_false (by omega), Bool.false_and, if_neg (by simp)]
      · rw [if_neg (by omega), decide_eq_true (by omega), Bool.true_and]
        by_cases h2 : (s.data.toList.getD i 0).toNat ≤ 126
        · rw [if_neg (by omega), decide_eq_true h2, if_pos rfl]; rfl
        · rw [if_pos (by omega), decide_eq_false h2, if_neg (by simp)]
    cases ho : okByte (s.data.toList.getD i 0) with
    | true => exact Ev.step (fun k => by rw [one, ho, if_pos rfl]) (ih (i + 1) (by omega) (by omega))
    | false => exact Ev.step (f := fun _ => some false) (fun k => by rw [one, ho, if_neg (by simp)]) (Ev.now _)
theorem refRight_l0 (s : ByteArray) (hs : s.size ≤ 4000) (n : Nat) : ∀ i : Nat, s.size - i = n → i ≤ s.size →
    Ev (fun k => secateurref21_Right.l0 k s i) ((s.data.toList.drop i).all okByte && RightB s) := by
  have ls := len_of s
  induction n with
  | zero =>
    intro i hn hi
    obtain rfl : i = s.size := by omega
    refine Ev.step (f := fun _ => some (RightB s)) (fun k => ?_) (by rw [List.drop_of_length_le (by omega)]; exact Ev.now _)
    simp only [secateurref21_Right.l0]
    rw [if_neg (by omega)]
    unfold RightB
    by_cases h : s.size = 0
    · rw [if_neg (by omega), decide_eq_false (by omega : ¬ 1 ≤ s.size)]
      rfl
    · rw [if_pos (by omega), decide_eq_true (by omega : 1 ≤ s.size), Bool.true_and]
      congr 1
      exact decide_eq_decide.2 (by omega)
  | succ n ih =>
    intro i hn hi
    rw [drop_all _ _ i (by omega)]
    have one : ∀ k, secateurref21_Right.l0 (k + 1) s i = if okByte (s.data.toList.getD i 0) = true then secateurref21_Right.l0 k s ((i + 1 : Nat) : Int) else some false := by
      intro k
      simp only [secateurref21_Right.l0]
      rw [if_pos (by omega), if_pos (by omega), bt_getD, wrap_of (by omega) (by omega)]
      unfold okByte
      by_cases h1 : (s.data.toList.getD i 0).toNat ≤ 32
      · rw [if_pos (by omega), decide_eq_false (by omega), Bool.false_and, if_neg (by simp)]
      · rw [if_neg (by omega), decide_eq_true (by omega), Bool.true_and]
        by_cases h2 : (s.data.toList.getD i 0).toNat ≤ 126
        · rw [if_neg (by omega), decide_eq_true h2, if_pos rfl]; rfl
        · rw [if_pos (by omega), decide_eq_false h2, if_neg (by simp)]
    cases ho : okByte (s.data.toList.getD i 0) with
    | true => exact Ev.step (fun k => by rw [one, ho, if_pos rfl]) (ih (i + 1) (by omega) (by omega))
    | false => exact Ev.step (f := fun _ => some false) (fun k => by rw [one, ho, if_neg (by simp)]) (Ev.now _)
theorem rights (s : ByteArray) (hs : s.size ≤ 4000) : ∃ r, Ev (fun k => glob_Right.f k s) r ∧ Ev (fun k => secateurref21_Right.f k s) r :=
  ⟨_, right_l0 s hs _ 0 rfl (Nat.zero_le _), refRight_l0 s hs _ 0 rfl (Nat.zero_le _)⟩

theorem refPlain_l0 (s : ByteArray) (hs : s.size ≤ 4000) (n : Nat) : ∀ i : Nat, s.size - i = n → i ≤ s.size →
    Ev (fun k => secateurref21_Plain.l0 k s i) (PlainB (s.data.toList.drop i)) := by
  have ls := len_of s
  induction n with
  | zero =>
    intro i hn hi
    obtain rfl : i = s.size := by omega
    refine Ev.step (f := fun _ => some true) (fun k => ?_) (by rw [List.drop_of_length_le (by omega)]; exact Ev.now _)
    simp only [secateurref21_Plain.l0]
    rw [if_neg (by omega)]
  | succ n ih =>
    intro i hn hi
    unfold PlainB
    rw [drop_all _ _ i (by omega)]
    by_cases h1 : s.data.toList.getD i 0 = 42
    · rw [h1]
      refine Ev.step (fun k => ?_) (Ev.now _)
      simp only [secateurref21_Plain.l0]
      rw [if_pos (by omega), if_pos (by omega), bt_getD, if_pos ((u8_42 _).2 h1)]
      rfl
    · by_cases h2 : s.data.toList.getD i 0 = 63
      · rw [h2]
        refine Ev.step (fun k => ?_) (Ev.now _)
        simp only [secateurref21_Plain.l0]
        rw [if_pos (by omega), if_pos (by omega), bt_getD, if_neg (fun e => h1 ((u8_42 _).1 e)), if_pos ((u8_63 _).2 h2)]
        rfl
      · have e : (s.data.toList.getD i 0 != 42 && s.data.toList.getD i 0 != 63) = true := by rw [bne_iff_ne.2 h1, bne_iff_ne.2 h2]; rfl
        rw [e, Bool.true_and]
        refine Ev.step (fun k => ?_) (ih (i + 1) (by omega) (by omega))
        simp only [secateurref21_Plain.l0]
        rw [if_pos (by omega), if_pos (by omega), bt_getD, if_neg (fun e => h1 ((u8_42 _).1 e)), if_neg (fun e => h2 ((u8_63 _).1 e)), wrap_of (by omega) (by omega)]
        rfl

theorem refLeast_l0 (s : ByteArray) (hs : s.size ≤ 4000) (n : Nat) : ∀ (i m : Nat), s.size - i = n → i ≤ s.size → m ≤ i →
    Ev (fun k => secateurref21_Least.l0 k s m i) (((m + least (s.data.toList.drop i) : Nat) : Int)) := by
  have ls := len_of s
  induction n with
  | zero =>
    intro i m hn hi _
    obtain rfl : i = s.size := by omega
    refine Ev.step (f := fun _ => some (m : Int)) (fun k => ?_) (by rw [List.drop_of_length_le (by omega)]; exact Ev.now _)
    simp only [secateurref21_Least.l0]
    rw [if_neg (by omega)]
  | succ n ih =>
    intro i m hn hi hm
    rw [drop_cons _ i (by omega)]
    by_cases h1 : s.data.toList.getD i 0 = 42
    · have e : least (s.data.toList.getD i 0 :: s.data.toList.drop (i + 1)) = least (s.data.toList.drop (i + 1)) := by rw [h1]; rfl
      rw [e]
      refine Ev.step (fun k => ?_) (ih (i + 1) m (by omega) (by omega) (by omega))
      simp only [secateurref21_Least.l0]
      rw [if_pos (by omega), if_pos (by omega), bt_getD, if_pos ((u8_42 _).2 h1), wrap_of (by omega) (by omega)]
      rfl
    · have e : least (s.data.toList.getD i 0 :: s.data.toList.drop (i + 1)) = 1 + least (s.data.toList.drop (i + 1)) := by
        unfold least
        rw [List.filter_cons, if_pos (bne_iff_ne.2 h1), List.length_cons]
        omega
      rw [e, ← Nat.add_assoc]
      refine Ev.step (fun k => ?_) (ih (i + 1) (m + 1) (by omega) (by omega) (by omega))
      simp only [secateurref21_Least.l0]
      rw [if_pos (by omega), if_pos (by omega), bt_getD, if_neg (fun e => h1 ((u8_42 _).1 e)), wrap_of (by omega) (by omega), wrap_of (by omega) (by omega)]
      rfl

/-- The texts of some that a pattern matches. -/
noncomputable def those (p : ByteArray) (l : List ByteArray) : List ByteArray := l.filter fun s => MtB p.data.toList s.data.toList
theorem rdOf_str (l : List ByteArray) (i : Nat) : rdOf ByteArray.empty l (i : Int) = l.getD i ByteArray.empty := by simp [rdOf]
theorem drop_str (l : List ByteArray) (i : Nat) (h : i < l.length) : l.drop i = l.getD i ByteArray.empty :: l.drop (i + 1) := by
  rw [List.drop_eq_getElem_cons h, List.getD_eq_getElem?_getD, List.getElem?_eq_getElem h]; rfl
theorem getD_mem (l : List ByteArray) (i : Nat) (h : i < l.length) : l.getD i ByteArray.empty ∈ l := by
  rw [List.getD_eq_getElem?_getD, List.getElem?_eq_getElem h]; exact List.getElem_mem h

theorem among_l0 (p : ByteArray) (hp : p.size ≤ 4000) (l : List ByteArray) (hl : l.length ≤ 1000) (hs : ∀ s ∈ l, s.size ≤ 4000) (n : Nat) : ∀ (i : Nat) (acc : List ByteArray), l.length - i = n → i ≤ l.length → acc.length ≤ i →
    Ev (fun k => glob_Among.l0 k p acc l l.length i) (acc ++ those p (l.drop i)) := by
  induction n with
  | zero =>
    intro i acc hn hi _
    obtain rfl : i = l.length := by omega
    refine Ev.step (f := fun _ => some acc) (fun k => ?_) (by rw [List.drop_of_length_le (by omega)]; simp only [those, List.filter_nil, List.append_nil]; exact Ev.now _)
    simp only [glob_Among.l0]
    rw [if_neg (by omega)]
  | succ n ih =>
    intro i acc hn hi ha
    rw [drop_str l i (by omega)]
    refine Ev.step (f := fun k => (glob_Match.f k p (l.getD i ByteArray.empty)).bind fun t106 => (if t106 = true then (glob_Among.l0 k p (acc ++ [l.getD i ByteArray.empty]) l l.length ((i + 1 : Nat) : Int)) else (glob_Among.l0 k p acc l l.length ((i + 1 : Nat) : Int)))) (fun k => ?_) ?_
    · simp only [glob_Among.l0]
      rw [if_pos (by omega), if_pos (by omega), if_pos (by omega), rdOf_str, wrap_of (by omega) (by omega)]
      simp only [if_pos (show acc.length < 8796093022208 by omega)]
      rfl
    · refine Ev.bind (match_ev p _ (by omega) (by have := hs _ (getD_mem l i (by omega)); omega)) ?_
      cases h : MtB p.data.toList (l.getD i ByteArray.empty).data.toList with
      | true =>
        refine Ev.congr (fun k => if_pos rfl) ?_
        have e : acc ++ those p (l.getD i ByteArray.empty :: l.drop (i + 1)) = (acc ++ [l.getD i ByteArray.empty]) ++ those p (l.drop (i + 1)) := by
          unfold those
          rw [List.filter_cons, if_pos h]; simp
        rw [e]
        exact ih (i + 1) _ (by omega) (by omega) (by simp; omega)
      | false =>
        refine Ev.congr (fun k => if_neg (by simp)) ?_
        have e : those p (l.getD i ByteArray.empty :: l.drop (i + 1)) = those p (l.drop (i + 1)) := by
          unfold those
          rw [List.filter_cons, if_neg (by rw [h]; simp)]
        rw [e]
        exact ih (i + 1) _ (by omega) (by omega) (by omega)
theorem refAmong_l0 (p : ByteArray) (hp : p.size ≤ 4000) (l : List ByteArray) (hl : l.length ≤ 1000) (hs : ∀ s ∈ l, s.size ≤ 4000) (n : Nat) : ∀ (i : Nat) (acc : List ByteArray), l.length - i = n → i ≤ l.length → acc.length ≤ i →
    Ev (fun k => secateurref21_Among.l0 k p l acc i) (acc ++ those p (l.drop i)) := by
  induction n with
  | zero =>
    intro i acc hn hi _
    obtain rfl : i = l.length := by omega
    refine Ev.step (f := fun _ => some acc) (fun k => ?_) (by rw [List.drop_of_length_le (by omega)]; simp only [those, List.filter_nil, List.append_nil]; exact Ev.now _)
    simp only [secateurref21_Among.l0]
    rw [if_neg (by omega)]
  | succ n ih =>
    intro i acc hn hi ha
    rw [drop_str l i (by omega)]
    refine Ev.step (f := fun k => (secateurref21_Match.f k p (l.getD i ByteArray.empty)).bind fun t106 => (if t106 = true then (secateurref21_Among.l0 k p l (acc ++ [l.getD i ByteArray.empty]) ((i + 1 : Nat) : Int)) else (secateurref21_Among.l0 k p l acc ((i + 1 : Nat) : Int)))) (fun k => ?_) ?_
    · simp only [secateurref21_Among.l0]
      rw [if_pos (by omega), if_pos (by omega), rdOf_str, wrap_of (by omega) (by omega)]
      simp only [if_pos (show acc.length < 8796093022208 by omega)]
      rfl
    · refine Ev.bind (refMatch_ev p _ (by omega) (by have := hs _ (getD_mem l i (by omega)); omega)) ?_
      cases h : MtB p.data.toList (l.getD i ByteArray.empty).data.toList with
      | true =>
        refine Ev.congr (fun k => if_pos rfl) ?_
        have e : acc ++ those p (l.getD i ByteArray.empty :: l.drop (i + 1)) = (acc ++ [l.getD i ByteArray.empty]) ++ those p (l.drop (i + 1)) := by
          unfold those
          rw [List.filter_cons, if_pos h]; simp
        rw [e]
        exact ih (i + 1) _ (by omega) (by omega) (by simp; omega)
      | false =>
        refine Ev.congr (fun k => if_neg (by simp)) ?_
        have e : those p (l.getD i ByteArray.empty :: l.drop (i + 1)) = those p (l.drop (i + 1)) := by
          unfold those
          rw [List.filter_cons, if_neg (by rw [h]; simp)]
        rw [e]
        exact ih (i + 1) _ (by omega) (by omega) (by omega)

theorem same_l0 (l : List ByteArray) (hl : l.length ≤ 1000) (n : Nat) : ∀ i : Nat, l.length - i = n → i ≤ l.length → Ev (fun k => secateurref01_SameTexts.l0 k l l i) true := by
  induction n with
  | zero =>
    intro i hn hi
    refine Ev.step (f := fun _ => some true) (fun k => ?_) (Ev.now _)
    simp only [secateurref01_SameTexts.l0]
    rw [if_neg (by omega)]
  | succ n ih =>
    intro i hn hi
    refine Ev.step (fun k => ?_) (ih (i + 1) (by omega) (by omega))
    simp only [secateurref01_SameTexts.l0]
    rw [if_pos (by omega), if_pos (by omega), if_pos (by omega), if_pos trivial, wrap_of (by omega) (by omega)]
    rfl
theorem same_ev (l : List ByteArray) (hl : l.length ≤ 1000) : Ev (fun k => secateurref01_SameTexts.f k l l) true := by
  refine Ev.congr (fun k => ?_) (same_l0 l hl _ 0 rfl (Nat.zero_le _))
  unfold secateurref01_SameTexts.f
  rw [if_pos rfl]
  rfl

theorem matches_j1 (p s : ByteArray) (hp : p.size ≤ 80) (hs : s.size ≤ 80) (l : List ByteArray) (hl : l.length ≤ 1000) (hls : ∀ s ∈ l, s.size ≤ 80) : Ev (fun k => secateurlaw21_GlobMatches.j1 k p s l) true := by
  refine Ev.step (fun k => by simp only [secateurlaw21_GlobMatches.j1]; rfl) ?_
  refine Ev.bind live_ev ?_
  refine Ev.congr (fun k => if_pos rfl) ?_
  obtain ⟨r, h1, h2⟩ := rights p (by omega)
  refine Ev.bind h1 (Ev.bind h2 ?_)
  refine Ev.congr (fun k => if_pos (by simp)) ?_
  refine Ev.congr (fun k => bind_some_eq (plain_eq p) _) ?_
  refine Ev.bind (refPlain_l0 p (by omega) _ 0 rfl (Nat.zero_le _)) ?_
  refine Ev.congr (fun k => if_pos (by simp)) ?_
  refine Ev.bind (match_ev p s (by omega) (by omega)) (Ev.bind (refMatch_ev p s (by omega) (by omega)) ?_)
  refine Ev.congr (fun k => if_pos (by simp)) ?_
  refine Ev.congr (fun k => bind_some_eq (least_eq p (by omega)) _) ?_
  refine Ev.bind (refLeast_l0 p (by omega) _ 0 0 rfl (Nat.zero_le _) (Nat.le_refl _)) ?_
  refine Ev.congr (fun k => if_pos (by simp)) ?_
  have hls2 : ∀ s ∈ l, s.size ≤ 4000 := fun s h => by have := hls s h; omega
  refine Ev.bind (among_l0 p (by omega) l hl hls2 _ 0 [] rfl (Nat.zero_le _) (Nat.le_refl _)) (Ev.bind (refAmong_l0 p (by omega) l hl hls2 _ 0 [] rfl (Nat.zero_le _) (Nat.le_refl _)) ?_)
  refine Ev.bind (same_ev _ ?_) (Ev.now _)
  have : (those p (l.drop 0)).length ≤ (l.drop 0).length := List.length_filter_le _ _
  simp only [List.drop_zero] at this
  simp only [List.nil_append, List.drop_zero]
  omega

theorem matches_l0 (p s : ByteArray) (hp : p.size ≤ 80) (hs : s.size ≤ 80) (l : List ByteArray) (n : Nat) : ∀ (i : Nat) (acc : List ByteArray), 20 - i = n → i ≤ 20 → acc.length ≤ i → (∀ s ∈ acc, s.size ≤ 80) →
    Ev (fun k => secateurlaw21_GlobMatches.l0 k p s l acc i) true := by
  induction n with
  | zero =>
    intro i acc hn hi ha hm
    refine Ev.step (fun k => ?_) (matches_j1 p s hp hs acc (by omega) hm)
    simp only [secateurlaw21_GlobMatches.l0]
    by_cases h : (i : Int) < (l.length : Int)
    · rw [if_pos h, if_neg (by omega)]
    · rw [if_neg h]
  | succ n ih =>
    intro i acc hn hi ha hm
    by_cases h : (i : Int) < (l.length : Int)
    · obtain ⟨t, et, ht⟩ := cut_some (l.getD i ByteArray.empty)
      refine Ev.step (fun k => ?_) (ih (i + 1) (acc ++ [t]) (by omega) (by omega) (by simp; omega) (fun s hs => by
        rcases List.mem_append.1 hs with h | h
        · exact hm s h
        · rw [List.mem_singleton.1 h]; exact ht))
      simp only [secateurlaw21_GlobMatches.l0]
      rw [if_pos h, if_pos (by omega), if_pos (by omega), rdOf_str, bind_some_eq et, if_pos (by omega), wrap_of (by omega) (by omega)]
      rfl
    · refine Ev.step (fun k => ?_) (matches_j1 p s hp hs acc (by omega) hm)
      simp only [secateurlaw21_GlobMatches.l0]
      rw [if_neg h]

theorem GlobMatches (a0 a1 : ByteArray) (l2 : List ByteArray) : ∃ k, secateurlaw21_GlobMatches.f k a0 a1 l2 = some true := by
  obtain ⟨p, ep, hp⟩ := cut_some a0
  obtain ⟨s, es, hs⟩ := cut_some a1
  refine Ev.rounds (Ev.congr (fun k => ?_) (matches_l0 p s hp hs l2 _ 0 [] rfl (by omega) (Nat.le_refl _) (fun s h => by cases h)))
  unfold secateurlaw21_GlobMatches.f
  rw [bind_some_eq ep, bind_some_eq es]
  rfl
end Go.Proofs.Ytbdaledkkbkhgaa.Pure
