/- The inner functions of package op over one instruction: op.Same against the empty one, op.named, op.call. -/
import Derived.Test.YtmamaijiphdggaaDoorInstr
namespace Go.Proofs.YtmamaijiphdggaaDoor.Given
set_option linter.unusedVariables false
set_option linter.unusedSimpArgs false
open Go.RowKit Go.Lib
open Go.Proofs.YtmamaijiphdggaaDoorW.PrintWords

set_option maxRecDepth 100000 in
theorem equal0_calls (A : Option Addr) (len cap : Nat) (hl : len ≤ 9223372036854775807) (w : World) :
    Calls Tryd.prog 49 #[.slice A len cap, .slice none 0 0] w fun e w' => e = .returned (.bool (len == 0)) ∧ w = w' := by
  by_cases h : len = 0
  · subst h
    go_enter Tryd.func49, Tryd.ntmps49
    go_wp2
    go_loopg [13] 0 (fun gk v wr => v = .int .i64 0 ∧ w = wr)
    case atStart => exact ⟨rfl, rfl⟩
    case round =>
      obtain ⟨rfl, rfl⟩ := hrel
      go_wp2
      go_ret
      exact ⟨rfl, rfl⟩
  · have hd : ((len : Int) == 0) = false := beq_eq_false_iff_ne.2 (by omega)
    have hd2 : ((len : Int) != 0) = true := by rw [bne, hd]; rfl
    have hd3 : (len == 0) = false := beq_eq_false_iff_ne.2 h
    go_enter Tryd.func49, Tryd.ntmps49
    go_wp2
    go_ret
    exact ⟨ret_bool hd3.symm, rfl⟩

def emptyB (o a b c k : Int) (cl nm ds : ByteArray) (len : Nat) : Bool := (len == 0) && (o == 0 && (a == 0 && (b == 0 && (c == 0 && (k == 0 && (cl.size == 0 && (nm.size == 0 && ds.size == 0)))))))
theorem toList_nil (s : ByteArray) : (s.toList == ([] : List UInt8)) = (s.size == 0) := by
  have h := nonempty s
  have hl : s.data.toList.length = s.size := by simp
  rw [ByteArray.toList_eq] at h ⊢
  cases hs : s.data.toList with
  | nil => rw [hs] at hl; simp at hl; rw [← hl]; rfl
  | cons c l => rw [hs] at hl; simp at hl; rw [← hl]; rfl
theorem toList_nil' (s : ByteArray) : decide (s.toList = ([] : List UInt8)) = (s.size == 0) := by rw [← toList_nil]; cases s.toList <;> rfl
theorem toList_nil'' (s : ByteArray) : (s.toList = ([] : List UInt8)) ↔ (s.size == 0) = true := by rw [← toList_nil]; cases s.toList <;> simp

set_option maxHeartbeats 8000000 in
set_option maxRecDepth 100000 in
theorem same0_calls (o a b c k : Int) (cl nm ds : ByteArray) (A : Option Addr) (len cap : Nat) (hl : len ≤ 9223372036854775807) (w : World) :
    Calls Tryd.prog 30 #[insV o a b c k cl nm ds A len cap, insV 0 0 0 0 0 ⟨#[]⟩ ⟨#[]⟩ ⟨#[]⟩ none 0 0] w fun e w' => e = .returned (.bool (emptyB o a b c k cl nm ds len)) ∧ Below w.heap.size w w' := by
  have e1 := fun w => equal0_calls A len cap hl w
  go_enter Tryd.func30, Tryd.ntmps30
  cases hz : (len == 0) with
  | false =>
    have he : Hid (false = emptyB o a b c k cl nm ds len) := hid (by unfold emptyB; rw [hz]; rfl)
    rw [hz] at e1
    go_wp2_with (go_at_call 49; refine (e1 _).mono ?_; rintro e w' ⟨rfl, rfl⟩)
    go_ret
    exact ⟨ret_bool he.out, ((Below.refl _ _).alloc (Nat.le_refl _) _).alloc (by rw [al_size]; omega) _⟩
  | true =>
    have he : Hid ((o == 0 && (a == 0 && (b == 0 && (c == 0 && (k == 0 && ((cl.toList == ([] : List UInt8)) && ((nm.toList == ([] : List UInt8)) && (ds.toList == ([] : List UInt8))))))))) = emptyB o a b c k cl nm ds len) := hid (by unfold emptyB; rw [hz, toList_nil, toList_nil, toList_nil]; rfl)
    rw [hz] at e1
    clear hz
    go_wp2_with (go_at_call 49; refine (e1 _).mono ?_; rintro e w' ⟨rfl, rfl⟩)
    all_goals
      go_ret
      refine ⟨ret_bool ?_, ((Below.refl _ _).alloc (Nat.le_refl _) _).alloc (by rw [al_size]; omega) _⟩
      rw [← he.out]
      first
      | (simp [*]; done)

def callN (o : Int) (ds : ByteArray) : Int := if o = 19 then ((splitB ds).1.length : Int) else ((splitB ds).1.length : Int) + 1
def callA (ds : ByteArray) : Bool := ((splitB ds).2.2.2 == 0) && !((splitB ds).2.1 == 1)
theorem splitB_len (s : ByteArray) : (splitB s).1.length ≤ 8 := by
  unfold splitB
  split
  · simp
  · cases hb : bodyB s with
    | error n => simp
    | ok r =>
      unfold bodyB at hb
      split at hb
      · cases hp : paramsB s (s.size + 1) 1 with
        | none => rw [hp] at hb; cases hb
        | some t =>
          rw [hp] at hb
          simp only [afterB] at hb
          cases ho : oneB s (t.2 + 1) with
          | none => rw [ho] at hb; cases hb
          | some u =>
            rw [ho] at hb
            simp only [closeB] at hb
            split at hb
            · split at hb
              · cases hb; assumption
              · cases hb
            · cases hb
      · cases hb

set_option maxHeartbeats 8000000 in
set_option maxRecDepth 100000 in
theorem call_calls (o a b c k : Int) (cl nm ds : ByteArray) (A : Option Addr) (len cap : Nat) (hs : ds.size ≤ 140737488351232) (w : World) :
    Calls Tryd.prog 41 #[insV o a b c k cl nm ds A len cap] w fun e w' => e = .returned (.tuple #[.int .i64 (callN o ds), .bool (callA ds)]) ∧ Below w.heap.size w w' := by
  have e1 := fun w => Split_calls ds hs w
  have hl := splitB_len ds
  have hN : Hid ((if o = 19 then ((splitB ds).1.length : Int) else ((splitB ds).1.length : Int) + 1) = callN o ds) := hid rfl
  have hA : Hid ((((splitB ds).2.2.2 == 0) && !((splitB ds).2.1 == 1)) = callA ds) := hid rfl
  generalize splitB ds = S at *
  obtain ⟨l, rk, rc, er⟩ := S
  simp only at e1 hl hN hA
  by_cases h19 : o = 19
  · have h19b : (o == 19) = true := beq_iff_eq.2 h19
    have h19c : (o != 19) = false := by rw [bne, h19b]; rfl
    have hN2 : Hid ((l.length : Int) = callN o ds) := hid (by rw [← hN.out, if_pos h19])
    clear hN h19
    go_enter Tryd.func41, Tryd.ntmps41
    go_wp2_with (go_at_call 74; refine (e1 _).mono ?_; rintro e w' ⟨v, rfl, hr, hb⟩
                 obtain ⟨A1, cap1, hv⟩ := Kd.R_slice hr
                 subst hv
                 have hI := (IBox.new w o a b c k cl nm ds A len cap).grown (below_grown hb)
                 have c0 := hI.c0
                 have hlt : w.heap.size < w'.heap.size := by have := hb.size; rw [al_size] at this; omega
                 have hne : w.heap.size ≠ w'.heap.size := Nat.ne_of_lt hlt
                 have hBb : Below w.heap.size w w' := ((Below.refl _ _).alloc (Nat.le_refl _) _).trans (hb.mono (by rw [al_size]; omega)))
    cases he0 : (er == 0) with
    | true =>
      have hA2 : Hid ((!(rk == 1)) = callA ds) := hid (by rw [← hA.out, he0, Bool.true_and])
      clear hA
      go_region
      all_goals
        go_wp2
        go_ret2
        refine ⟨by rw [← hN2.out, ← hA2.out]; first | rfl | (simp; done), ?_⟩
        first
        | exact (hBb.alloc (by omega) _).drew
        | exact hBb.alloc (by omega) _
    | false =>
      have hA2 : Hid (false = callA ds) := hid (by rw [← hA.out, he0, Bool.false_and])
      clear hA
      go_region
      all_goals
        go_wp2
        go_ret2
        refine ⟨by rw [← hN2.out, ← hA2.out]; first | rfl | (simp; done), ?_⟩
        first
        | exact (hBb.alloc (by omega) _).drew
        | exact hBb.alloc (by omega) _
  · have h19b : (o == 19) = false := beq_eq_false_iff_ne.2 h19
    have h19c : (o != 19) = true := by rw [bne, h19b]; rfl
    have hN2 : Hid ((l.length : Int) + 1 = callN o ds) := hid (by rw [← hN.out, if_neg h19])
    clear hN h19
    go_enter Tryd.func41, Tryd.ntmps41
    go_wp2_with (go_at_call 74; refine (e1 _).mono ?_; rintro e w' ⟨v, rfl, hr, hb⟩
                 obtain ⟨A1, cap1, hv⟩ := Kd.R_slice hr
                 subst hv
                 have hI := (IBox.new w o a b c k cl nm ds A len cap).grown (below_grown hb)
                 have c0 := hI.c0
                 have hlt : w.heap.size < w'.heap.size := by have := hb.size; rw [al_size] at this; omega
                 have hne : w.heap.size ≠ w'.heap.size := Nat.ne_of_lt hlt
                 have hBb : Below w.heap.size w w' := ((Below.refl _ _).alloc (Nat.le_refl _) _).trans (hb.mono (by rw [al_size]; omega)))
    cases he0 : (er == 0) with
    | true =>
      have hA2 : Hid ((!(rk == 1)) = callA ds) := hid (by rw [← hA.out, he0, Bool.true_and])
      clear hA
      go_region
      all_goals
        go_wp2
        go_ret2
        refine ⟨by rw [← hN2.out, ← hA2.out]; first | rfl | (simp; done), ?_⟩
        first
        | exact (hBb.alloc (by omega) _).drew
        | exact hBb.alloc (by omega) _
    | false =>
      have hA2 : Hid (false = callA ds) := hid (by rw [← hA.out, he0, Bool.false_and])
      clear hA
      go_region
      all_goals
        go_wp2
        go_ret2
        refine ⟨by rw [← hN2.out, ← hA2.out]; first | rfl | (simp; done), ?_⟩
        first
        | exact (hBb.alloc (by omega) _).drew
        | exact hBb.alloc (by omega) _
end Go.Proofs.YtmamaijiphdggaaDoor.Given
