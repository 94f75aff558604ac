/- The inner function op.named. -/
import Derived.Test.YtmamaijiphdggaaDoorSame
namespace Go.Proofs.YtmamaijiphdggaaDoor.Given
set_option linter.unusedVariables false
set_option linter.unusedSimpArgs false
open Go.RowKit Go.Lib
open Go.Proofs.YtmamaijiphdggaaDoorW.PrintWords

def nameB (s : ByteArray) : Bool := s.data.toList == clinit.data.toList || ofB letterB s
def namedB (o : Int) (cl nm ds : ByteArray) : Bool :=
  (!(hasAnyB (shapeB o) ⟨#[77]⟩) || (splitB ds).2.2.2 == 0) && ((!(hasAnyB (shapeB o) ⟨#[67, 70, 77]⟩) || ofB classB cl) && (!(hasAnyB (shapeB o) ⟨#[70, 77]⟩) || nameB nm))
def namedQ (qM qC qF : Bool) (er : Int) (c1 n1 : Bool) : Bool := (!qM || er == 0) && ((!qC || c1) && (!qF || n1))

set_option maxHeartbeats 8000000 in
set_option maxRecDepth 100000 in
theorem named_walk (o a b c k : Int) (cl nm ds : ByteArray) (A : Option Addr) (len cap : Nat) (hs : ds.size ≤ 140737488351232) (hs1 : cl.size ≤ 9223372036854775807) (hs2 : nm.size ≤ 9223372036854775807) (w : World) (hG : GW w) (qM qC qF c1 n1 : Bool)
    (hM : ∀ w, Calls Tryd.prog 40 #[.string (shapeB o), .string ⟨#[77]⟩] w fun e w' => e = .returned (.bool qM) ∧ w.grownBy w' none)
    (hC : ∀ w, Calls Tryd.prog 40 #[.string (shapeB o), .string ⟨#[67, 70, 77]⟩] w fun e w' => e = .returned (.bool qC) ∧ w.grownBy w' none)
    (hF : ∀ w, Calls Tryd.prog 40 #[.string (shapeB o), .string ⟨#[70, 77]⟩] w fun e w' => e = .returned (.bool qF) ∧ w.grownBy w' none)
    (hc : ∀ w, Calls Tryd.prog 55 #[.string cl] w fun e w' => e = .returned (.bool c1) ∧ w = w')
    (hn : ∀ w, Calls Tryd.prog 61 #[.string nm] w fun e w' => e = .returned (.bool n1) ∧ w = w') :
    Calls Tryd.prog 43 #[insV o a b c k cl nm ds A len cap] w fun e w' => e = .returned (.bool (namedQ qM qC qF (splitB ds).2.2.2 c1 n1)) ∧ Below w.heap.size w w' := by
  have e1 := fun w => Split_calls ds hs w
  generalize splitB ds = S at *
  obtain ⟨l, rk, rc, er⟩ := S
  simp only at e1 ⊢
  have hG1 := hG.alloc (.cells #[.int .i64 o, .int .i64 a, .int .i64 b, .int .i64 c, .int .i64 k, .string cl, .string nm, .string ds, .slice A len cap] 44)
  have hI := IBox.new w o a b c k cl nm ds A len cap
  have hB : Below w.heap.size w (w.alloc (.cells #[.int .i64 o, .int .i64 a, .int .i64 b, .int .i64 c, .int .i64 k, .string cl, .string nm, .string ds, .slice A len cap] 44)) := (Below.refl _ _).alloc (Nat.le_refl _) _
  go_enter Tryd.func43, Tryd.ntmps43
  go_upto_if 11 with (first
    | (go_at_call 10; refine (Shape_calls _ _ hG1).mono ?_; rintro e w' ⟨rfl, rfl⟩)
    | (go_at_call 40; refine (hM _).mono ?_; rintro e w' ⟨rfl, hg⟩
       replace hI := hI.grown hg
       replace hB := hB.trans ((grown_below hg).mono hB.size)))
  go_cut [] (fun wc => Hid (((!qM) || (er == 0)) = true) ∧ IBox wc w.heap.size o a b c k cl nm ds A len cap ∧ Below w.heap.size w wc)
  case first =>
    cases qM
    · go_wp2
      go_meet
      case rel => exact ⟨hid rfl, hI, hB⟩
    · have c7 := hI.c7
      have hlt := (Array.getElem?_eq_some_iff.1 hI.heap).1
      cases he0 : (er == 0) with
      | true =>
        go_wp2_with (go_at_call 74; refine (e1 _).mono ?_; rintro e w' ⟨v, rfl, hr, hb⟩
                     obtain ⟨A1, cap1, hv⟩ := Kd.R_slice hr
                     subst hv
                     replace hI := hI.grown (below_grown hb)
                     replace hB := hB.trans (hb.mono hB.size))
        go_meet
        case rel => exact ⟨hid (by rw [he0]; rfl), hI.grown (grownBy_alloc _ _ _), hB.alloc hB.size _⟩
      | false =>
        have hz : Hid (false = namedQ true qC qF er c1 n1) := hid (by unfold namedQ; rw [he0]; rfl)
        go_wp2_with (go_at_call 74; refine (e1 _).mono ?_; rintro e w' ⟨v, rfl, hr, hb⟩
                     obtain ⟨A1, cap1, hv⟩ := Kd.R_slice hr
                     subst hv
                     replace hI := hI.grown (below_grown hb)
                     replace hB := hB.trans (hb.mono hB.size))
        go_ret
        exact ⟨ret_bool hz.out, hB.alloc hB.size _⟩
  case rest =>
  clear hI hB hg
  obtain ⟨hq, hI, hB⟩ := hcut
  have c5 := hI.c5
  have c6 := hI.c6
  have hz : Hid (((!qC || c1) && (!qF || n1)) = namedQ qM qC qF er c1 n1) := hid (by unfold namedQ; rw [hq.out, Bool.true_and])
  clear hq
  have stepI : ∀ {W W' : World}, IBox W w.heap.size o a b c k cl nm ds A len cap → W.grownBy W' none → IBox W' w.heap.size o a b c k cl nm ds A len cap := fun h g => h.grown g
  have stepB : ∀ {W W' : World}, Below w.heap.size w W → W.grownBy W' none → Below w.heap.size w W' := fun h g => h.trans ((grown_below g).mono h.size)
  go_wp2_with (first
    | (go_at_call 40; with_reducible refine (hC _).mono ?_; rintro e w' ⟨rfl, hg⟩
       have hI1 := stepI hI hg
       have hB1 := stepB hB hg
       have d5 := hI1.c5
       have d6 := hI1.c6)
    | (go_at_call 55; with_reducible refine (hc _).mono ?_; rintro e w' ⟨rfl, rfl⟩)
    | (go_at_call 40; with_reducible refine (hF _).mono ?_; rintro e w' ⟨rfl, hg2⟩
       have hI2 := stepI hI1 hg2
       have hB2 := stepB hB1 hg2
       have f5 := hI2.c5
       have f6 := hI2.c6)
    | (go_at_call 61; with_reducible refine (hn _).mono ?_; rintro e w' ⟨rfl, rfl⟩))
  all_goals
    go_ret
    first
    | (refine ⟨ret_bool ?_, hB2⟩; rw [← hz.out]; simp [*]; done)
    | (refine ⟨ret_bool ?_, hB1⟩; rw [← hz.out]; simp [*]; done)

theorem named_calls (o a b c k : Int) (cl nm ds : ByteArray) (A : Option Addr) (len cap : Nat) (hs : ds.size ≤ 140737488351232) (hs1 : cl.size ≤ 140737488351232) (hs2 : nm.size ≤ 140737488351232) (w : World) (hG : GW w) :
    Calls Tryd.prog 43 #[insV o a b c k cl nm ds A len cap] w fun e w' => e = .returned (.bool (namedB o cl nm ds)) ∧ Below w.heap.size w w' :=
  named_walk o a b c k cl nm ds A len cap hs (by omega) (by omega) w hG _ _ _ _ _ (has_at _ _ rfl) (has_at _ _ rfl) (has_at _ _ rfl) (Class_calls cl (by omega)) (Name_calls nm (by omega))
end Go.Proofs.YtmamaijiphdggaaDoor.Given
