/- The plain law of secateurlaw08.Great: it ends, and where it says no, a program's lists and texts are short. -/
import Derived.Test.YtmamaijiphdggaaDoorPTopx2
namespace Go.Proofs.YtmamaijiphdggaaDoor.TopMath
open Go.RowKit Go.Proofs.YtmamaijiphdggaaDoor.PTop Go.Proofs.YtmamaijiphdggaaDoor.Given Go.Proofs.YtmamaijiphdggaaDoorW.PrintWords Go.Proofs.YtmamaijiphdggaaDoorW.PrintLast Go.Proofs.YtmamaijiphdggaaDoorW.PrintMore
set_option linter.unusedVariables false
set_option linter.unusedSimpArgs false
theorem wrap_next (i : Nat) (h : i < 9223372036854775807) : wrap64 ((i : Int) + 1) = ((i + 1 : Nat) : Int) := by unfold wrap64; omega
theorem rdT44 (l : List S44) (i : Nat) (h : i < l.length) : rd_T44 l (i : Int) = l[i] := by simp [rd_T44, List.getD, List.getElem?_eq_getElem h]
theorem rdT40 (l : List S40) (i : Nat) (h : i < l.length) : rd_T40 l (i : Int) = l[i] := by simp [rd_T40, List.getD, List.getElem?_eq_getElem h]
theorem rdT37 (l : List S37) (i : Nat) (h : i < l.length) : rd_T37 l (i : Int) = l[i] := by simp [rd_T37, List.getD, List.getElem?_eq_getElem h]
def shI (y : S44) : Bool := decide (y.f8.length ≤ 60) && (decide (y.f5.size ≤ 300) && (decide (y.f6.size ≤ 300) && decide (y.f7.size ≤ 300)))
def shM (m : S40) : Bool := decide (m.f5.length ≤ 300) && (decide (m.f0.size ≤ 300) && decide (m.f1.size ≤ 300))
def shC (x : S37) : Bool := decide (x.f4.length ≤ 40) && (decide (x.f5.length ≤ 40) && (decide (x.f6.length ≤ 40) && (decide (x.f0.size ≤ 300) && decide (x.f1.size ≤ 300))))
def sMs (l : List S40) : Prop := ∀ m ∈ l, shM m = true ∧ ∀ y ∈ m.f5, shI y = true
def sCs (l : List S37) : Prop := ∀ x ∈ l, shC x = true ∧ sMs x.f6
theorem drop_cons {α : Type} {l : List α} {i : Nat} (h : i < l.length) : l.drop i = l[i] :: l.drop (i + 1) := (List.getElem_cons_drop h).symm
/-- The answer, and what a no says. -/
def Says (g : Nat → Option Bool) (Q : Prop) : Prop := ∃ r, Ev g r ∧ (r = false → Q)
theorem Says.step {g f : Nat → Option Bool} {Q : Prop} (h : ∀ k, g (k + 1) = f k) (k : Says f Q) : Says g Q := by
  obtain ⟨r, e, q⟩ := k
  exact ⟨r, Ev.step h e, q⟩
theorem Says.imp {g : Nat → Option Bool} {Q R : Prop} (k : Says g Q) (h : Q → R) : Says g R := by
  obtain ⟨r, e, q⟩ := k
  exact ⟨r, e, fun hr => h (q hr)⟩
theorem Says.yes (Q : Prop) : Says (fun _ => some true) Q := ⟨true, Ev.now _, fun h => by cases h⟩
section
variable (cs : List S37) (ns : List ByteArray) (e1 e2 e3 : ByteArray)
theorem great_l2 (a b : Int) (c0 c1 : ByteArray) (c2 c3 : Bool) (c4 : List ByteArray) (c5 : List S83) (c6 : List S40) (m0 m1 : ByteArray) (m2 m3 : Bool) (m4 : Int) (m5 : List S44) (hm : m5.length ≤ 1000) (Q : Prop)
    (H : Says (fun k => secateurlaw08_Great.l1 k a (wrap64 (b + 1)) cs ns e1 e2 e3 c0 c1 c2 c3 c4 c5 c6) Q) :
    ∀ d i, m5.length - i = d → i ≤ m5.length → Says (fun k => secateurlaw08_Great.l2 k a b (i : Int) cs ns e1 e2 e3 c0 c1 c2 c3 c4 c5 c6 m0 m1 m2 m3 m4 m5) ((∀ y ∈ m5.drop i, shI y = true) ∧ Q) := by
  intro d
  induction d with
  | zero =>
    intro i hd hi
    refine Says.step (f := fun k => secateurlaw08_Great.l1 k a (wrap64 (b + 1)) cs ns e1 e2 e3 c0 c1 c2 c3 c4 c5 c6) (fun k => ?_) (H.imp fun q => ⟨fun y hy => ?_, q⟩)
    · rw [secateurlaw08_Great.l2, if_neg (by omega)]
    · rw [List.drop_eq_nil_of_le (by omega)] at hy
      cases hy
  | succ d ih =>
    intro i hd hi
    have hlt : i < m5.length := by omega
    have e : ∀ k, secateurlaw08_Great.l2 (k + 1) a b (i : Int) cs ns e1 e2 e3 c0 c1 c2 c3 c4 c5 c6 m0 m1 m2 m3 m4 m5 =
        if shI m5[i] = true then secateurlaw08_Great.l2 k a b ((i + 1 : Nat) : Int) cs ns e1 e2 e3 c0 c1 c2 c3 c4 c5 c6 m0 m1 m2 m3 m4 m5 else some true := by
      intro k
      rw [secateurlaw08_Great.l2, if_pos (by omega), if_pos (by omega), rdT44 m5 i hlt, wrap_next i (by omega)]
      generalize m5[i] = y
      unfold shI
      by_cases k1 : y.f8.length ≤ 60 <;> by_cases k2 : y.f5.size ≤ 300 <;> by_cases k3 : y.f6.size ≤ 300 <;> by_cases k4 : y.f7.size ≤ 300 <;>
        simp only [k1, k2, k3, k4, decide_true, decide_false, Bool.and_true, Bool.and_false, Bool.true_and, Bool.false_and, if_true, if_false, Bool.false_eq_true] <;>
        (repeat (first | rw [if_pos (by omega)] | rw [if_neg (by omega)])) <;> rfl
    cases hq : shI m5[i] with
    | true =>
      refine Says.step (fun k => by rw [e k, hq, if_pos rfl]) ((ih (i + 1) (by omega) (by omega)).imp fun q => ⟨fun y hy => ?_, q.2⟩)
      rw [drop_cons hlt] at hy
      rcases List.mem_cons.1 hy with rfl | hy
      · exact hq
      · exact q.1 y hy
    | false => exact Says.step (f := fun _ => some true) (fun k => by rw [e k, hq]; rfl) (Says.yes _)
theorem great_l1 (a : Nat) (c0 c1 : ByteArray) (c2 c3 : Bool) (c4 : List ByteArray) (c5 : List S83) (c6 : List S40) (hm : c6.length ≤ 1000) (Q : Prop)
    (H : Says (fun k => secateurlaw08_Great.l0 k (wrap64 ((a : Int) + 1)) cs ns e1 e2 e3) Q) :
    ∀ d i, c6.length - i = d → i ≤ c6.length → Says (fun k => secateurlaw08_Great.l1 k (a : Int) (i : Int) cs ns e1 e2 e3 c0 c1 c2 c3 c4 c5 c6) (sMs (c6.drop i) ∧ Q) := by
  intro d
  induction d with
  | zero =>
    intro i hd hi
    refine Says.step (f := fun k => secateurlaw08_Great.l0 k (wrap64 ((a : Int) + 1)) cs ns e1 e2 e3) (fun k => ?_) (H.imp fun q => ⟨fun y hy => ?_, q⟩)
    · rw [secateurlaw08_Great.l1, if_neg (by omega)]
    · rw [List.drop_eq_nil_of_le (by omega)] at hy
      cases hy
  | succ d ih =>
    intro i hd hi
    have hlt : i < c6.length := by omega
    have e : ∀ k, secateurlaw08_Great.l1 (k + 1) (a : Int) (i : Int) cs ns e1 e2 e3 c0 c1 c2 c3 c4 c5 c6 =
        secateurlaw08_Great.j4 k (a : Int) (i : Int) (!shM c6[i]) cs ns e1 e2 e3 c0 c1 c2 c3 c4 c5 c6 c6[i].f0 c6[i].f1 c6[i].f2 c6[i].f3 c6[i].f4 c6[i].f5 := by
      intro k
      rw [secateurlaw08_Great.l1, if_pos (by omega), if_pos (by omega), rdT40 c6 i hlt]
      generalize c6[i] = y
      unfold shM
      by_cases k1 : y.f5.length ≤ 300
      · rw [if_neg (by omega), decide_eq_true k1]
        by_cases k2 : y.f0.size ≤ 300
        · rw [if_neg (by omega), decide_eq_true k2]
          by_cases k3 : y.f1.size ≤ 300
          · rw [decide_eq_true k3, decide_eq_false (by omega)]; rfl
          · rw [decide_eq_false k3, decide_eq_true (by omega)]; rfl
        · rw [if_pos (by omega), decide_eq_false k2]; rfl
      · rw [if_pos (by omega), decide_eq_false k1]; rfl
    refine Says.step (f := fun k => secateurlaw08_Great.j4 k (a : Int) (i : Int) (!shM c6[i]) cs ns e1 e2 e3 c0 c1 c2 c3 c4 c5 c6 c6[i].f0 c6[i].f1 c6[i].f2 c6[i].f3 c6[i].f4 c6[i].f5) e ?_
    cases hq : shM c6[i] with
    | true =>
      have hl5 : c6[i].f5.length ≤ 1000 := by
        unfold shM at hq
        simp at hq
        omega
      have hw := wrap_next i (by omega)
      have hN := great_l2 cs ns e1 e2 e3 (a : Int) (i : Int) c0 c1 c2 c3 c4 c5 c6 c6[i].f0 c6[i].f1 c6[i].f2 c6[i].f3 c6[i].f4 c6[i].f5 hl5 (sMs (c6.drop (i + 1)) ∧ Q) (by rw [hw]; exact ih (i + 1) (by omega) (by omega)) _ 0 rfl (Nat.zero_le _)
      refine Says.step (fun k => by rw [Bool.not_true, secateurlaw08_Great.j4, if_neg (by decide)]; rfl) (hN.imp fun q => ⟨fun m hy => ?_, q.2.2⟩)
      rw [drop_cons hlt] at hy
      rcases List.mem_cons.1 hy with rfl | hy
      · exact ⟨hq, by simpa using q.1⟩
      · exact q.2.1 m hy
    | false => exact Says.step (f := fun _ => some true) (fun k => by rw [Bool.not_false, secateurlaw08_Great.j4, if_pos rfl]) (Says.yes _)
theorem great_l0 (hc : cs.length ≤ 1000) : ∀ d i, cs.length - i = d → i ≤ cs.length → Says (fun k => secateurlaw08_Great.l0 k (i : Int) cs ns e1 e2 e3) (sCs (cs.drop i)) := by
  intro d
  induction d with
  | zero =>
    intro i hd hi
    refine ⟨false, Ev.step (f := fun _ => some false) (fun k => ?_) (Ev.now _), fun _ y hy => ?_⟩
    · rw [secateurlaw08_Great.l0, if_neg (by omega)]
    · rw [List.drop_eq_nil_of_le (by omega)] at hy
      cases hy
  | succ d ih =>
    intro i hd hi
    have hlt : i < cs.length := by omega
    have e : ∀ k, secateurlaw08_Great.l0 (k + 1) (i : Int) cs ns e1 e2 e3 =
        secateurlaw08_Great.j2 k (i : Int) (!shC cs[i]) cs ns e1 e2 e3 cs[i].f0 cs[i].f1 cs[i].f2 cs[i].f3 cs[i].f4 cs[i].f5 cs[i].f6 := by
      intro k
      rw [secateurlaw08_Great.l0, if_pos (by omega), if_pos (by omega), rdT37 cs i hlt]
      generalize cs[i] = y
      unfold shC
      by_cases k1 : y.f4.length ≤ 40
      · rw [if_neg (by omega), decide_eq_true k1]
        by_cases k2 : y.f5.length ≤ 40
        · rw [if_neg (by omega), decide_eq_true k2]
          by_cases k3 : y.f6.length ≤ 40
          · rw [if_neg (by omega), decide_eq_true k3]
            by_cases k4 : y.f0.size ≤ 300
            · rw [if_neg (by omega), decide_eq_true k4]
              by_cases k5 : y.f1.size ≤ 300
              · rw [decide_eq_true k5, decide_eq_false (by omega)]; rfl
              · rw [decide_eq_false k5, decide_eq_true (by omega)]; rfl
            · rw [if_pos (by omega), decide_eq_false k4]; rfl
          · rw [if_pos (by omega), decide_eq_false k3]; rfl
        · rw [if_pos (by omega), decide_eq_false k2]; rfl
      · rw [if_pos (by omega), decide_eq_false k1]; rfl
    refine Says.step (f := fun k => secateurlaw08_Great.j2 k (i : Int) (!shC cs[i]) cs ns e1 e2 e3 cs[i].f0 cs[i].f1 cs[i].f2 cs[i].f3 cs[i].f4 cs[i].f5 cs[i].f6) e ?_
    cases hq : shC cs[i] with
    | true =>
      have hl6 : cs[i].f6.length ≤ 1000 := by
        unfold shC at hq
        simp at hq
        omega
      have hw := wrap_next i (by omega)
      have hN := great_l1 cs ns e1 e2 e3 i cs[i].f0 cs[i].f1 cs[i].f2 cs[i].f3 cs[i].f4 cs[i].f5 cs[i].f6 hl6 (sCs (cs.drop (i + 1))) (by rw [hw]; exact ih (i + 1) (by omega) (by omega)) _ 0 rfl (Nat.zero_le _)
      refine Says.step (fun k => by rw [Bool.not_true, secateurlaw08_Great.j2, if_neg (by decide)]; rfl) (hN.imp fun q x hy => ?_)
      rw [drop_cons hlt] at hy
      rcases List.mem_cons.1 hy with rfl | hy
      · exact ⟨hq, by simpa using q.1⟩
      · exact q.2 x hy
    | false => exact Says.step (f := fun _ => some true) (fun k => by rw [Bool.not_false, secateurlaw08_Great.j2, if_pos rfl]) (Says.yes _)
/-- secateurlaw08.Great ends; a no says that all is short. -/
theorem great_says : Says (fun k => secateurlaw08_Great.f k cs ns e1 e2 e3) (cs.length ≤ 70 ∧ ns.length ≤ 70 ∧ sCs cs) := by
  by_cases h1 : cs.length ≤ 70
  · by_cases h2 : ns.length ≤ 70
    · have h := great_l0 cs ns e1 e2 e3 (by omega) _ 0 rfl (Nat.zero_le _)
      have h' : Says (fun k => secateurlaw08_Great.j0 k false cs ns e1 e2 e3) (cs.length ≤ 70 ∧ ns.length ≤ 70 ∧ sCs cs) :=
        Says.step (fun k => by rw [secateurlaw08_Great.j0, if_neg (by decide)]; rfl) (h.imp fun q => ⟨h1, h2, by simpa using q⟩)
      obtain ⟨r, e, q⟩ := h'
      exact ⟨r, Ev.congr (fun k => by unfold secateurlaw08_Great.f; rw [if_neg (by omega), decide_eq_false (by omega)]) e, q⟩
    · refine ⟨true, Ev.congr (f := fun k => secateurlaw08_Great.j0 k true cs ns e1 e2 e3) (fun k => by unfold secateurlaw08_Great.f; rw [if_neg (by omega), decide_eq_true (by omega)]) (Ev.step (f := fun _ => some true) (fun k => by rw [secateurlaw08_Great.j0, if_pos rfl]) (Ev.now _)), fun h => by cases h⟩
  · refine ⟨true, Ev.congr (f := fun k => secateurlaw08_Great.j0 k true cs ns e1 e2 e3) (fun k => by unfold secateurlaw08_Great.f; rw [if_pos (by omega)]) (Ev.step (f := fun _ => some true) (fun k => by rw [secateurlaw08_Great.j0, if_pos rfl]) (Ev.now _)), fun h => by cases h⟩
end
end Go.Proofs.YtmamaijiphdggaaDoor.TopMath
