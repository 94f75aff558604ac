/- Plain facts about the printed reference function of descriptors: it answers as splitB does. -/
import Derived.Test.YtmamaijiphdggaaDoorRefMath
namespace Go.Proofs.YtmamaijiphdggaaDoor.Math
open Go.RowKit Go.Proofs.YtmamaijiphdggaaDoor.POp Go.Proofs.YtmamaijiphdggaaDoor.Given Go.Proofs.YtmamaijiphdggaaDoorW.PrintWords Go.Proofs.YtmamaijiphdggaaDoorW.PrintLast Go.Proofs.YtmamaijiphdggaaDoorW.PrintMore
set_option linter.unusedVariables false
set_option linter.unusedSimpArgs false

theorem ba_ext {a b : ByteArray} (h : a.data.toList = b.data.toList) : a = b := by
  cases a with
  | mk x => cases b with
    | mk y => exact congrArg ByteArray.mk (Array.ext' h)
theorem extract_list (s : ByteArray) (i j : Nat) : (s.extract i j).data.toList = (s.data.toList.take j).drop i := by
  simp [ByteArray.data_extract, Array.toList_extract]
  rw [List.drop_take]
theorem seesB_bt (s : ByteArray) (i : Nat) (h : i < s.size) (b : Int) : seesB s i b = (bt s (i : Int) == b) := by
  unfold seesB
  rw [dif_pos h, bt_get s i h]
theorem seesB_no (s : ByteArray) (i : Nat) (h : ¬ i < s.size) (b : Int) : seesB s i b = false := by
  unfold seesB
  rw [dif_neg h]
theorem name_stop (s : ByteArray) (i : Nat) (hi : i ≤ s.size) (h : 0 ≤ semi (tailOf s i)) : nameOf s i = s.extract i (stopAt s i) ∧ i + (nameOf s i).size = stopAt s i ∧ stopAt s i < s.size := by
  have hlt := semi_lt _ h
  have ht := tail_size s i
  have e : stopAt s i = i + (semi (tailOf s i)).toNat := by unfold stopAt; rw [if_pos h]
  have e1 : nameOf s i = s.extract i (stopAt s i) := by
    unfold nameOf cutA
    rw [if_pos h, e]
    apply ba_ext
    rw [extract_list, extract_list, tail_list, List.drop_zero, List.drop_take, Nat.add_sub_cancel_left]
  have e2 : (nameOf s i).size = stopAt s i - i := by
    rw [e1]
    simp
    omega
  exact ⟨e1, by omega, by omega⟩

def NoNext (g : Nat → Option (Int × ByteArray × Int × Bool)) : Prop := ∃ a b c, Ev g (a, b, c, false)
theorem NoNext.step {g f : Nat → Option (Int × ByteArray × Int × Bool)} (h : ∀ k, g (k + 1) = f k) (k : NoNext f) : NoNext g := by
  obtain ⟨a, b, c, hk⟩ := k
  exact ⟨a, b, c, Ev.step h hk⟩
theorem NoNext.congr {g f : Nat → Option (Int × ByteArray × Int × Bool)} (h : ∀ k, g k = f k) (k : NoNext f) : NoNext g := by
  obtain ⟨a, b, c, hk⟩ := k
  exact ⟨a, b, c, Ev.congr h hk⟩
theorem next_l0 (s : ByteArray) (hs : s.size ≤ 1000000) (x1 : Int) (x7 : Bool) {r : Int × ByteArray × Int × Bool} : ∀ d i, s.size - i = d → i ≤ s.size →
    Ev (fun k => secateurref06_next.j3 k s x1 x7 (stopAt s i : Int)) r → Ev (fun k => secateurref06_next.l0 k s x1 x7 (i : Int)) r
  | 0, i, hd, hi, h => by
    have e : i = s.size := by omega
    rw [stopAt_end s i (by omega)] at h
    refine Ev.step (f := fun k => secateurref06_next.j3 k s x1 x7 (i : Int)) (fun k => by simp only [secateurref06_next.l0]; rw [if_neg (by omega)]) ?_
    rw [e]; exact h
  | d + 1, i, hd, hi, h => by
    have hlt : i < s.size := by omega
    by_cases h59 : bt s (i : Int) = 59
    · rw [(stopAt_hit s i hlt h59).1] at h
      exact Ev.step (f := fun k => secateurref06_next.j3 k s x1 x7 (i : Int)) (fun k => by simp only [secateurref06_next.l0]; rw [if_pos (by omega), if_pos (by omega), if_pos h59]) h
    · rw [(stopAt_miss s i hlt h59).1] at h
      exact Ev.step (f := fun k => secateurref06_next.l0 k s x1 x7 ((i + 1 : Nat) : Int)) (fun k => by simp only [secateurref06_next.l0]; rw [if_pos (by omega), if_pos (by omega), if_neg h59, wrap_succ i (by omega)])
        (next_l0 s hs x1 x7 d (i + 1) (by omega) (by omega) h)

/-- What the reference tells of a type that is no array. -/
def PlainTold (g : Nat → Option (Int × ByteArray × Int × Bool)) (x7 : Bool) : Option (Int × ByteArray × Nat) → Prop
  | none => NoNext g
  | some t => if x7 = true ∧ t.1 = 1 then NoNext g else Ev g (t.1 + (if x7 = true then 2 else 0), t.2.1, (t.2.2 : Int), true)
theorem PlainTold.no {g : Nat → Option (Int × ByteArray × Int × Bool)} {t : Int × ByteArray × Nat} (h : PlainTold g true (some t)) (h1 : t.1 = 1) : NoNext g := by
  have h2 : if true = true ∧ t.1 = 1 then NoNext g else Ev g (t.1 + (if true = true then 2 else 0), t.2.1, (t.2.2 : Int), true) := h
  rwa [if_pos (show true = true ∧ t.1 = 1 from ⟨rfl, h1⟩)] at h2
theorem PlainTold.yes {g : Nat → Option (Int × ByteArray × Int × Bool)} {x7 : Bool} {t : Int × ByteArray × Nat} (h : PlainTold g x7 (some t)) (hn : ¬ (x7 = true ∧ t.1 = 1)) : Ev g (t.1 + (if x7 = true then 2 else 0), t.2.1, (t.2.2 : Int), true) := by
  have h2 : if x7 = true ∧ t.1 = 1 then NoNext g else Ev g (t.1 + (if x7 = true then 2 else 0), t.2.1, (t.2.2 : Int), true) := h
  rwa [if_neg hn] at h2
theorem next_j1 (s : ByteArray) (hs : s.size ≤ 1000000) (i : Nat) (x7 : Bool) : PlainTold (fun k => secateurref06_next.j1 k s (i : Int) x7) x7 (plainB s i) := by
  by_cases hlt : i < s.size
  · have hw := wrap_succ i (by omega)
    have k0 : ¬ ((i : Int) ≥ (s.size : Int)) := by omega
    have k1 : (0 : Int) ≤ (i : Int) := by omega
    have k2 : (i : Int) < (s.size : Int) := by omega
    unfold plainB
    rw [seesB_bt s i hlt, seesB_bt s i hlt, seesB_bt s i hlt]
    by_cases h86 : bt s (i : Int) = 86
    · rw [if_pos (beq_iff_eq.mpr h86)]
      have e : ∀ k, secateurref06_next.j1 (k + 1) s (i : Int) x7 = some (1, ⟨#[]⟩, ((i + 1 : Nat) : Int), !x7) := fun k => by
        simp only [secateurref06_next.j1]
        rw [if_neg k0, if_pos k1, if_pos k2, if_pos h86, hw]
      show if x7 = true ∧ (1 : Int) = 1 then _ else _
      cases x7 with
      | true =>
        rw [if_pos ⟨rfl, rfl⟩]
        exact ⟨_, _, _, Ev.step (f := fun _ => some (1, ⟨#[]⟩, ((i + 1 : Nat) : Int), false)) e (Ev.now _)⟩
      | false =>
        rw [if_neg (by simp)]
        exact Ev.step (f := fun _ => some (1, ⟨#[]⟩, ((i + 1 : Nat) : Int), true)) e (Ev.now _)
    · rw [if_neg (by rw [beq_iff_eq]; exact h86)]
      by_cases h73 : bt s (i : Int) = 73
      · rw [if_pos (beq_iff_eq.mpr h73)]
        show if x7 = true ∧ (2 : Int) = 1 then _ else _
        rw [if_neg (by omega)]
        cases x7 with
        | true => exact Ev.step (f := fun _ => some (4, ⟨#[]⟩, ((i + 1 : Nat) : Int), true)) (fun k => by simp only [secateurref06_next.j1]; rw [if_neg k0, if_pos k1, if_pos k2, if_neg h86, if_pos h73, hw]; rfl) (Ev.now _)
        | false => exact Ev.step (f := fun _ => some (2, ⟨#[]⟩, ((i + 1 : Nat) : Int), true)) (fun k => by simp only [secateurref06_next.j1]; rw [if_neg k0, if_pos k1, if_pos k2, if_neg h86, if_pos h73, hw]; rfl) (Ev.now _)
      · rw [if_neg (by rw [beq_iff_eq]; exact h73)]
        by_cases h76 : bt s (i : Int) = 76
        · rw [if_pos (beq_iff_eq.mpr h76)]
          have hm := stopAt_miss s i hlt (by omega)
          have hl0 : ∀ {r}, Ev (fun k => secateurref06_next.j3 k s (i : Int) x7 (stopAt s (i + 1) : Int)) r → Ev (fun k => secateurref06_next.j1 k s (i : Int) x7) r := fun {r} h =>
            Ev.step (f := fun k => secateurref06_next.l0 k s (i : Int) x7 (i : Int)) (fun k => by simp only [secateurref06_next.j1]; rw [if_neg k0, if_pos k1, if_pos k2, if_neg h86, if_neg h73, if_pos h76])
              (next_l0 s hs (i : Int) x7 _ i rfl (by omega) (by rw [hm.1]; exact h))
          have j4t : ∀ y : Int, Ev (fun k => secateurref06_next.j4 k s (i : Int) x7 y true) (0, ⟨#[]⟩, 0, false) := fun y =>
            Ev.step (f := fun _ => some (0, ⟨#[]⟩, 0, false)) (fun k => by simp only [secateurref06_next.j4]; rfl) (Ev.now _)
          by_cases h0 : 0 ≤ semi (tailOf s (i + 1))
          · obtain ⟨n1, n2, n3⟩ := name_stop s (i + 1) (by omega) h0
            have hcl : ((nameOf s (i + 1)).size : Nat) ≤ 1000000 := by omega
            have hC := Class_ref (nameOf s (i + 1)) (by omega)
            have j3 : ∀ {r}, Ev (fun k => secateurref06_next.j4 k s (i : Int) x7 (stopAt s (i + 1) : Int) (!(ofB classB (nameOf s (i + 1))))) r → Ev (fun k => secateurref06_next.j3 k s (i : Int) x7 (stopAt s (i + 1) : Int)) r := fun {r} h =>
              Ev.step (f := fun k => (secateurref04_Class.f k (nameOf s (i + 1))).bind fun t => secateurref06_next.j4 k s (i : Int) x7 (stopAt s (i + 1) : Int) (!t)) (fun k => by
                simp only [secateurref06_next.j3]
                rw [if_neg (by omega), hw, if_pos (by omega), if_pos (by omega), if_pos (by omega), n1]
                rfl) (Ev.bind hC h)
            cases hc : ofB classB (nameOf s (i + 1)) with
            | true =>
              have hok : okOf s (i + 1) = true := by unfold okOf; rw [decide_eq_true h0, hc]; rfl
              rw [if_pos hok]
              show if x7 = true ∧ (3 : Int) = 1 then _ else _
              rw [if_neg (by omega)]
              refine hl0 (j3 ?_)
              rw [hc]
              have e3 : ((i + 1 + (nameOf s (i + 1)).size + 1 : Nat) : Int) = wrap64 ((stopAt s (i + 1) : Int) + 1) := by rw [wrap_succ _ (by omega), ← n2]
              rw [e3, n1]
              cases x7 with
              | true => exact Ev.step (f := fun _ => some (5, s.extract (i + 1) (stopAt s (i + 1)), wrap64 ((stopAt s (i + 1) : Int) + 1), true)) (fun k => by simp only [secateurref06_next.j4]; rw [if_neg (by simp), hw, if_pos (by omega), if_pos (by omega), if_pos (by omega)]; rfl) (Ev.now _)
              | false => exact Ev.step (f := fun _ => some (3, s.extract (i + 1) (stopAt s (i + 1)), wrap64 ((stopAt s (i + 1) : Int) + 1), true)) (fun k => by simp only [secateurref06_next.j4]; rw [if_neg (by simp), hw, if_pos (by omega), if_pos (by omega), if_pos (by omega)]; rfl) (Ev.now _)
            | false =>
              have hok : okOf s (i + 1) = false := by unfold okOf; rw [hc, Bool.and_false]
              rw [if_neg (by rw [hok]; simp)]
              refine ⟨0, ⟨#[]⟩, 0, hl0 (j3 ?_)⟩
              rw [hc]
              exact j4t _
          · have hok : okOf s (i + 1) = false := by unfold okOf; rw [decide_eq_false h0, Bool.false_and]
            rw [if_neg (by rw [hok]; simp)]
            have es : stopAt s (i + 1) = s.size := by unfold stopAt; rw [if_neg h0]
            refine ⟨0, ⟨#[]⟩, 0, hl0 (Ev.step (f := fun k => secateurref06_next.j4 k s (i : Int) x7 (stopAt s (i + 1) : Int) true) (fun k => by
              simp only [secateurref06_next.j3]
              rw [if_pos (by omega)]) (j4t _))⟩
        · rw [if_neg (by rw [beq_iff_eq]; exact h76)]
          exact ⟨_, _, _, Ev.step (f := fun _ => some (0, ⟨#[]⟩, 0, false)) (fun k => by simp only [secateurref06_next.j1]; rw [if_neg k0, if_pos k1, if_pos k2, if_neg h86, if_neg h73, if_neg h76]) (Ev.now _)⟩
  · unfold plainB
    rw [seesB_no s i hlt, seesB_no s i hlt, seesB_no s i hlt]
    exact ⟨_, _, _, Ev.step (f := fun _ => some (0, ⟨#[]⟩, 0, false)) (fun k => by simp only [secateurref06_next.j1]; rw [if_pos (by omega)]) (Ev.now _)⟩
/-- What the reference tells of a type. -/
def NextTold (g : Nat → Option (Int × ByteArray × Int × Bool)) : Option (Int × ByteArray × Nat) → Prop
  | none => NoNext g
  | some t => Ev g (t.1, t.2.1, (t.2.2 : Int), true)
theorem plainB_kind {s : ByteArray} {i : Nat} {t : Int × ByteArray × Nat} (h : plainB s i = some t) : (seesB s i 86 = true ∧ t.1 = 1) ∨ (seesB s i 86 = false ∧ seesB s i 73 = true ∧ t.1 = 2 ∧ t.2.1 = ⟨#[]⟩) ∨ (seesB s i 86 = false ∧ seesB s i 73 = false ∧ seesB s i 76 = true ∧ t.1 = 3 ∧ ofB classB t.2.1 = true) := by
  unfold plainB at h
  cases h86 : seesB s i 86 with
  | true => rw [h86] at h; cases h; exact .inl ⟨rfl, rfl⟩
  | false =>
    rw [h86] at h
    cases h73 : seesB s i 73 with
    | true => rw [h73] at h; cases h; exact .inr (.inl ⟨rfl, rfl, rfl, rfl⟩)
    | false =>
      rw [h73] at h
      cases h76 : seesB s i 76 with
      | true =>
        rw [h76] at h
        simp only [Bool.false_eq_true, if_false, if_true] at h
        split at h
        · rename_i hok
          cases h
          refine .inr (.inr ⟨rfl, rfl, rfl, rfl, ?_⟩)
          unfold okOf at hok
          rw [Bool.and_eq_true] at hok
          exact hok.2
        · cases h
      | false => rw [h76] at h; simp at h
theorem next_ref (s : ByteArray) (hs : s.size ≤ 1000000) (i : Nat) : NextTold (fun k => secateurref06_next.f k s (i : Int)) (oneB s i) := by
  unfold oneB
  by_cases hlt : i < s.size
  · have hb := seesB_bt s i hlt 91
    have ef : ∀ k, secateurref06_next.f k s (i : Int) = secateurref06_next.j0 k s (i : Int) (bt s (i : Int) == 91) := fun k => by
      unfold secateurref06_next.f
      rw [if_pos (by omega), if_pos (by omega)]
    cases h91 : seesB s i 91 with
    | true =>
      rw [h91] at hb
      rw [← hb] at ef
      rw [if_pos rfl]
      have hj := next_j1 s hs (i + 1) true
      have st : ∀ k, secateurref06_next.j0 (k + 1) s (i : Int) true = secateurref06_next.j1 k s ((i + 1 : Nat) : Int) true := fun k => by
        have hw := wrap_succ i (by omega)
        simp [secateurref06_next.j0, hw]
      unfold memberB
      cases hp : plainB s (i + 1) with
      | none =>
        rw [hp] at hj
        have : ((if (seesB s (i + 1) 73 || seesB s (i + 1) 76) = true then (none : Option (Int × ByteArray × Nat)) else none).map fun t => (t.1 + 2, t.2.1, t.2.2)) = none := by split <;> rfl
        rw [this]
        exact NoNext.congr ef (NoNext.step st hj)
      | some t =>
        rw [hp] at hj
        rcases plainB_kind hp with ⟨k1, k2⟩ | ⟨k1, k2, k3, k4⟩ | ⟨k1, k2, k3, k4, k5⟩
        · have n73 : seesB s (i + 1) 73 = false := by
            obtain ⟨h1, h2⟩ := seesB_lt k1
            unfold seesB; rw [dif_pos h1, h2]; rfl
          have n76 : seesB s (i + 1) 76 = false := by
            obtain ⟨h1, h2⟩ := seesB_lt k1
            unfold seesB; rw [dif_pos h1, h2]; rfl
          rw [n73, n76]
          have hj2 := PlainTold.no hj k2
          exact NoNext.congr ef (NoNext.step st hj2)
        · rw [k2, Bool.true_or, if_pos rfl]
          have hj2 := PlainTold.yes hj (by omega)
          rw [if_pos rfl] at hj2
          exact Ev.congr ef (Ev.step st hj2)
        · rw [k2, k3, Bool.false_or, if_pos rfl]
          have hj2 := PlainTold.yes hj (by omega)
          rw [if_pos rfl] at hj2
          exact Ev.congr ef (Ev.step st hj2)
    | false =>
      rw [h91] at hb
      rw [← hb] at ef
      rw [if_neg (by simp)]
      have hj := next_j1 s hs i false
      have st : ∀ k, secateurref06_next.j0 (k + 1) s (i : Int) false = secateurref06_next.j1 k s (i : Int) false := fun k => by simp [secateurref06_next.j0]
      cases hp : plainB s i with
      | none => rw [hp] at hj; exact NoNext.congr ef (NoNext.step st hj)
      | some t =>
        rw [hp] at hj
        have hj2 := PlainTold.yes hj (by simp)
        rw [if_neg (by simp), Int.add_zero] at hj2
        exact Ev.congr ef (Ev.step st hj2)
  · have ef : ∀ k, secateurref06_next.f k s (i : Int) = secateurref06_next.j0 k s (i : Int) false := fun k => by
      unfold secateurref06_next.f
      rw [if_neg (by omega)]
    rw [if_neg (by rw [seesB_no s i hlt]; simp)]
    have hj := next_j1 s hs i false
    have hp : plainB s i = none := by unfold plainB; rw [seesB_no s i hlt, seesB_no s i hlt, seesB_no s i hlt]; rfl
    rw [hp] at hj ⊢
    exact NoNext.congr ef (NoNext.step (fun k => by simp [secateurref06_next.j0]) hj)
/-- A type that is read, and whether it can be a parameter. -/
theorem one_right {s : ByteArray} {i : Nat} {t : Int × ByteArray × Nat} (h : oneB s i = some t) : paramT t.1 t.2.1 = !(t.1 == 1) := by
  unfold oneB at h
  split at h
  · unfold memberB at h
    split at h
    · rename_i h7
      cases hp : plainB s (i + 1) with
      | none => rw [hp] at h; cases h
      | some t' =>
        rw [hp] at h
        cases h
        rcases plainB_kind hp with ⟨k1, k2⟩ | ⟨k1, k2, k3, k4⟩ | ⟨k1, k2, k3, k4, k5⟩
        · obtain ⟨h1, h2⟩ := seesB_lt k1
          have n73 : seesB s (i + 1) 73 = false := by unfold seesB; rw [dif_pos h1, h2]; rfl
          have n76 : seesB s (i + 1) 76 = false := by unfold seesB; rw [dif_pos h1, h2]; rfl
          rw [n73, n76] at h7
          simp at h7
        · simp only [k3, k4]; simp [paramT, rightT]
        · simp only [k4, paramT, rightT, k5]; rfl
    · cases h
  · rcases plainB_kind h with ⟨k1, k2⟩ | ⟨k1, k2, k3, k4⟩ | ⟨k1, k2, k3, k4, k5⟩
    · rw [k2]; unfold paramT; simp
    · rw [k3, k4]; simp [paramT, rightT]
    · rw [k4]; unfold paramT rightT; simp [k5]

/-! ### the whole descriptor -/
theorem tail_tail (s : ByteArray) (j i : Nat) : tailOf (tailOf s j) i = tailOf s (j + i) := by
  apply ba_ext
  rw [tail_list, tail_list, tail_list, List.drop_drop]
theorem sees_tail (s : ByteArray) (j i : Nat) (b : Int) : seesB (tailOf s j) i b = seesB s (j + i) b := by
  have hz := tail_size s j
  by_cases h : i < (tailOf s j).size
  · have h2 : j + i < s.size := by omega
    have e0 : (tailOf s j).data.toList[i]? = s.data.toList[j + i]? := by rw [tail_list, List.getElem?_drop]
    have h3 : i < (tailOf s j).data.toList.length := by simpa using h
    have h4 : j + i < s.data.toList.length := by simpa using h2
    rw [List.getElem?_eq_getElem h3, List.getElem?_eq_getElem h4] at e0
    have e : (tailOf s j)[i] = s[j + i] := Option.some.inj e0
    unfold seesB
    rw [dif_pos h, dif_pos h2, e]
  · rw [seesB_no _ _ h, seesB_no _ _ (by omega)]
theorem plain_tail (s : ByteArray) (j i : Nat) : plainB (tailOf s j) i = (plainB s (j + i)).map fun t => (t.1, t.2.1, t.2.2 - j) := by
  have e1 : okOf (tailOf s j) (i + 1) = okOf s (j + i + 1) := by unfold okOf nameOf; rw [tail_tail, Nat.add_assoc]
  have e2 : nameOf (tailOf s j) (i + 1) = nameOf s (j + i + 1) := by unfold nameOf; rw [tail_tail, Nat.add_assoc]
  unfold plainB
  rw [sees_tail, sees_tail, sees_tail, e1, e2]
  split
  · simp; omega
  · split
    · simp; omega
    · split
      · split
        · simp; omega
        · rfl
      · rfl
theorem one_tail (s : ByteArray) (j i : Nat) : oneB (tailOf s j) i = (oneB s (j + i)).map fun t => (t.1, t.2.1, t.2.2 - j) := by
  unfold oneB memberB
  rw [sees_tail, sees_tail, sees_tail, plain_tail, plain_tail, ← Nat.add_assoc]
  split
  · split
    · cases plainB s (j + i + 1) <;> rfl
    · rfl
  · rfl
def typ (p : Int × ByteArray) : S75 := ⟨p.1, p.2⟩
def parsed (s : ByteArray) : Option (Int × ByteArray × Nat) → Int × ByteArray × Int
  | none => (0, ⟨#[]⟩, 1)
  | some t => if t.2.2 = s.size then (t.1, t.2.1, 0) else (0, ⟨#[]⟩, 1)
theorem parse_ref (s : ByteArray) (hs : s.size ≤ 64) (j : Nat) (hj : j ≤ s.size) : Ev (fun k => secateurref06_Parse.f k (tailOf s j)) (parsed s (oneB s j)) := by
  have hz := tail_size s j
  have hn := next_ref (tailOf s j) (by omega) 0
  rw [one_tail, Nat.add_zero] at hn
  cases ho : oneB s j with
  | none =>
    rw [ho] at hn
    obtain ⟨a, b, c, h⟩ := hn
    refine Ev.congr (f := fun k => (secateurref06_next.f k (tailOf s j) ((0 : Nat) : Int)).bind fun bt178 => (if bt178.2.2.2 = true then (if bt178.2.2.1 = ((tailOf s j).size : Int) then (some (bt178.1, bt178.2.1, 0)) else (some (0, (⟨#[]⟩ : ByteArray), 1))) else (some (0, (⟨#[]⟩ : ByteArray), 1)))) (fun k => rfl) (Ev.bind h ?_)
    exact Ev.now _
  | some t =>
    rw [ho] at hn
    obtain ⟨h1, h2⟩ := oneB_lt ho
    refine Ev.congr (f := fun k => (secateurref06_next.f k (tailOf s j) ((0 : Nat) : Int)).bind fun bt178 => (if bt178.2.2.2 = true then (if bt178.2.2.1 = ((tailOf s j).size : Int) then (some (bt178.1, bt178.2.1, 0)) else (some (0, (⟨#[]⟩ : ByteArray), 1))) else (some (0, (⟨#[]⟩ : ByteArray), 1)))) (fun k => rfl) (Ev.bind hn ?_)
    refine Ev.congr (f := fun _ => if ((t.2.2 - j : Nat) : Int) = ((tailOf s j).size : Int) then (some (t.1, t.2.1, 0)) else (some (0, (⟨#[]⟩ : ByteArray), 1))) (fun k => if_pos rfl) ?_
    unfold parsed
    by_cases hq : t.2.2 = s.size
    · simp only [hq, if_true]
      rw [if_pos (by omega)]
      exact Ev.now _
    · simp only [if_neg hq]
      rw [if_neg (by omega)]
      exact Ev.now _
def outX : Except Int (List (Int × ByteArray) × Int × ByteArray) → List S75 × Int × ByteArray × Int
  | .error n => ([], 0, ⟨#[]⟩, n)
  | .ok r => (r.1.map typ, r.2.1, r.2.2, 0)
def afterAcc (s : ByteArray) (acc : List (Int × ByteArray)) : Option (List (Int × ByteArray) × Nat) → Except Int (List (Int × ByteArray) × Int × ByteArray)
  | none => .error 1
  | some r => closeB s (acc ++ r.1) (oneB s (r.2 + 1))
theorem split_l0 (s : ByteArray) (hs : s.size ≤ 64) : ∀ (n i : Nat) (acc : List (Int × ByteArray)), i ≤ s.size → s.size < n + i → acc.length ≤ i →
    Ev (fun k => secateurref06_Split.l0 k s (acc.map typ) (i : Int)) (outX (afterAcc s acc (paramsB s n i)))
  | 0, i, acc, hi, hn, hl => by omega
  | n + 1, i, acc, hi, hn, hl => by
    unfold paramsB
    by_cases hlt : i < s.size
    · have hb := seesB_bt s i hlt 41
      have st : ∀ k, secateurref06_Split.l0 (k + 1) s (acc.map typ) (i : Int) = secateurref06_Split.j2 k s (acc.map typ) (i : Int) (bt s (i : Int) != 41) := fun k => by
        simp only [secateurref06_Split.l0]
        rw [if_pos (by omega), if_pos (by omega)]
      have hbne : (bt s (i : Int) != 41) = !(seesB s i 41) := by rw [hb]; rfl
      rw [hbne] at st
      refine Ev.step st ?_
      cases h41 : seesB s i 41 with
      | true =>
        rw [if_pos rfl]
        have hw := wrap_succ i (by omega)
        have e0 : s.extract (i + 1) s.size = tailOf s (i + 1) := rfl
        refine Ev.step (f := fun k => (secateurref06_Parse.f k (tailOf s (i + 1))).bind fun bt192 => (if bt192.2.2 = 0 then (if ((acc.map typ).length : Int) > 8 then (some (([] : List (S75)), 0, (⟨#[]⟩ : ByteArray), 3)) else (some (acc.map typ, bt192.1, bt192.2.1, 0))) else (some (([] : List (S75)), 0, (⟨#[]⟩ : ByteArray), bt192.2.2)))) (fun k => by
          simp only [secateurref06_Split.j2]
          rw [if_neg (by simp), if_neg (by omega), hw, if_pos (by omega), if_pos (by omega)]
          rfl) (Ev.bind (parse_ref s hs (i + 1) (by omega)) ?_)
        show Ev _ (outX (closeB s (acc ++ []) (oneB s (i + 1))))
        rw [List.append_nil]
        cases oneB s (i + 1) with
        | none => exact Ev.now _
        | some t =>
          unfold parsed closeB
          by_cases hq : t.2.2 = s.size
          · simp only [hq, if_true]
            by_cases h8 : acc.length ≤ 8
            · simp only [h8, if_true]
              refine Ev.congr (f := fun _ => some (acc.map typ, t.1, t.2.1, 0)) (fun k => ?_) (Ev.now _)
              rw [if_neg (by simp; omega)]
            · simp only [h8, if_false]
              refine Ev.congr (f := fun _ => some (([] : List (S75)), 0, (⟨#[]⟩ : ByteArray), 3)) (fun k => ?_) (Ev.now _)
              rw [if_pos (by simp; omega)]
          · simp only [if_neg hq]
            exact Ev.congr (f := fun _ => some (([] : List (S75)), 0, (⟨#[]⟩ : ByteArray), 1)) (fun k => if_neg (by omega)) (Ev.now _)
      | false =>
        rw [if_neg (by simp)]
        have hn2 := next_ref s (by omega) i
        have st2 : ∀ k, secateurref06_Split.j2 (k + 1) s (acc.map typ) (i : Int) true = (secateurref06_next.f k s (i : Int)).bind fun bt184 => (if bt184.2.2.2 = true then (if bt184.1 = 1 then (some (([] : List (S75)), 0, (⟨#[]⟩ : ByteArray), 1)) else (if (acc.map typ).length < 5864062014805 then (secateurref06_Split.l0 k s (acc.map typ ++ [(⟨bt184.1, bt184.2.1⟩ : S75)]) bt184.2.2.1) else (none))) else (some (([] : List (S75)), 0, (⟨#[]⟩ : ByteArray), 1))) := fun k => by
          simp only [secateurref06_Split.j2]
          rw [if_pos trivial]
        refine Ev.step st2 ?_
        cases ho : oneB s i with
        | none =>
          rw [ho] at hn2
          obtain ⟨a, b, c, h⟩ := hn2
          exact Ev.bind h (Ev.congr (fun k => if_neg (by simp)) (Ev.now _))
        | some t =>
          rw [ho] at hn2
          obtain ⟨h1, h2⟩ := oneB_lt ho
          have hr := one_right ho
          refine Ev.bind hn2 (Ev.congr (fun k => if_pos rfl) ?_)
          by_cases hk : t.1 = 1
          · have hp : paramT t.1 t.2.1 = false := by rw [hr, hk]; rfl
            simp only [hp]
            refine Ev.congr (fun k => if_pos hk) (Ev.now _)
          · have hp : paramT t.1 t.2.1 = true := by rw [hr, beq_eq_false_iff_ne.mpr hk]; rfl
            simp only [hp, if_true]
            refine Ev.congr (fun k => (if_neg hk).trans (if_pos (by simp; omega))) ?_
            have ih := split_l0 s hs n t.2.2 (acc ++ [(t.1, t.2.1)]) h2 (by omega) (by simp; omega)
            have e1 : (acc ++ [(t.1, t.2.1)]).map typ = acc.map typ ++ [(⟨t.1, t.2.1⟩ : S75)] := by simp [typ]
            rw [e1] at ih
            have e2 : afterAcc s (acc ++ [(t.1, t.2.1)]) (paramsB s n t.2.2) = afterAcc s acc ((paramsB s n t.2.2).map fun r => ((t.1, t.2.1) :: r.1, r.2)) := by
              cases paramsB s n t.2.2 with
              | none => rfl
              | some r => simp [afterAcc]
            rw [e2] at ih
            exact ih
    · have e41 := seesB_no s i hlt 41
      have ho : oneB s i = none := by
        unfold oneB plainB
        rw [seesB_no s i hlt, seesB_no s i hlt, seesB_no s i hlt, seesB_no s i hlt]; rfl
      rw [e41, ho]
      refine Ev.step (f := fun k => secateurref06_Split.j2 k s (acc.map typ) (i : Int) false) (fun k => by
        simp only [secateurref06_Split.l0]
        rw [if_neg (by omega)]) ?_
      exact Ev.step (f := fun _ => some (([] : List (S75)), 0, (⟨#[]⟩ : ByteArray), 1)) (fun k => by
        simp only [secateurref06_Split.j2]
        rw [if_neg (by simp), if_pos (by omega)]) (Ev.now _)
/-- The reference's Split is splitB. -/
theorem Split_ref (s : ByteArray) : Ev (fun k => secateurref06_Split.f k s) ((splitB s).1.map typ, (splitB s).2.1, (splitB s).2.2.1, (splitB s).2.2.2) := by
  unfold splitB
  by_cases h64 : 64 < s.size
  · rw [if_pos h64]
    exact Ev.congr (f := fun _ => some (([] : List (S75)), 0, (⟨#[]⟩ : ByteArray), 3)) (fun k => by unfold secateurref06_Split.f; rw [if_pos (by omega)]) (Ev.now _)
  · rw [if_neg h64]
    have key : Ev (fun k => secateurref06_Split.f k s) (outX (bodyB s)) := by
      have j0t : Ev (fun k => secateurref06_Split.j0 k s true) (([] : List (S75)), 0, (⟨#[]⟩ : ByteArray), 1) :=
        Ev.step (f := fun _ => some (([] : List (S75)), 0, (⟨#[]⟩ : ByteArray), 1)) (fun k => by simp only [secateurref06_Split.j0]; rfl) (Ev.now _)
      unfold bodyB
      by_cases h0 : s.size = 0
      · rw [seesB_no s 0 (by omega)]
        exact Ev.congr (f := fun k => secateurref06_Split.j0 k s true) (fun k => by unfold secateurref06_Split.f; rw [if_neg (by omega), if_pos (by omega)]) j0t
      · have hb := seesB_bt s 0 (by omega) 40
        have ef : ∀ k, secateurref06_Split.f k s = secateurref06_Split.j0 k s (!(seesB s 0 40)) := fun k => by
          unfold secateurref06_Split.f
          rw [if_neg (by omega), if_neg (by omega), if_pos (by omega), hb]
          rfl
        cases h40 : seesB s 0 40 with
        | false =>
          rw [h40] at ef
          exact Ev.congr ef j0t
        | true =>
          rw [h40] at ef
          rw [if_pos rfl]
          have hl := split_l0 s (by omega) (s.size + 1) 1 [] (by omega) (by omega) (by simp)
          have e2 : afterAcc s [] (paramsB s (s.size + 1) 1) = afterB s (paramsB s (s.size + 1) 1) := by
            cases paramsB s (s.size + 1) 1 with
            | none => rfl
            | some r => simp [afterAcc, afterB]
          rw [e2] at hl
          exact Ev.congr ef (Ev.step (f := fun k => secateurref06_Split.l0 k s ([] : List S75) ((1 : Nat) : Int)) (fun k => by simp only [secateurref06_Split.j0]; rfl) hl)
    cases hb : bodyB s with
    | error n => rw [hb] at key; exact key
    | ok r => rw [hb] at key; exact key
end Go.Proofs.YtmamaijiphdggaaDoor.Math
