/- The table op.shapes in memory, and op.Shape and op.right over it. -/
import Derived.Test.YtmamaijiphdggaaDoorProg
import Derived.WalkKit
import Derived.Outline
import Derived.Below
import Derived.Lib.Hide
import Derived.Deep.Draws
namespace Go.Proofs.YtmamaijiphdggaaDoor.Given
set_option linter.unusedVariables false
set_option linter.unusedSimpArgs false
open Go.RowKit Go.Lib

/-- The shapes by Op. -/
def tbl : List ByteArray := [⟨#[]⟩, ⟨#[]⟩, ⟨#[97, 107]⟩, ⟨#[97]⟩, ⟨#[97, 98]⟩, ⟨#[97, 98, 99, 114]⟩, ⟨#[116]⟩, ⟨#[98, 116]⟩, ⟨#[98, 116]⟩, ⟨#[97, 67]⟩, ⟨#[97, 98]⟩, ⟨#[97, 98, 67]⟩, ⟨#[97, 98]⟩, ⟨#[97, 98, 99]⟩, ⟨#[97, 98, 99]⟩, ⟨#[97, 98, 70]⟩, ⟨#[98, 99, 70]⟩, ⟨#[97, 70]⟩, ⟨#[99, 70]⟩, ⟨#[97, 77, 118]⟩, ⟨#[97, 77, 118]⟩, ⟨#[97, 77, 118]⟩, ⟨#[98]⟩, ⟨#[]⟩, ⟨#[97, 98, 67]⟩, ⟨#[97, 98, 67]⟩, ⟨#[97]⟩, ⟨#[98]⟩, ⟨#[97, 98]⟩, ⟨#[97, 98]⟩, ⟨#[107]⟩, ⟨#[98]⟩, ⟨#[67]⟩]
/-- The world holds the table. -/
structure GW (w : World) : Prop where
  cell : ∀ i, i < 33 → w.cell? ⟨0, i, none⟩ = some (.string (tbl.getD i ⟨#[]⟩))
theorem GW.below {w w1 : World} (h : GW w) (hb : Below w.heap.size w w1) : GW w1 :=
  ⟨fun i hi => (hb.cell (p := ⟨0, i, none⟩) (World.block_lt_of_cell? w _ (h.cell i hi))).trans (h.cell i hi)⟩
theorem GW.drew {w : World} (h : GW w) : GW w.drew := ⟨h.cell⟩
theorem GW.drewN {w : World} (h : GW w) (n : Nat) : GW (w.drewN n) := ⟨h.cell⟩
theorem GW.alloc {w : World} (h : GW w) (o : Obj) : GW (w.alloc o) := h.below ((Below.refl _ _).alloc (Nat.le_refl _) o)

def shapeB (o : Int) : ByteArray := if 1 ≤ o ∧ o ≤ 32 then tbl.getD o.toNat ⟨#[]⟩ else ⟨#[]⟩
def rightB (o : Int) : Bool := decide (1 ≤ o) && decide (o ≤ 32)
theorem ret_bool' {a b : Bool} (h : a = b) : Ending.returned (.bool a) = .returned (.bool b) := by rw [h]
theorem ret_str {a b : ByteArray} (h : a = b) : Ending.returned (.string a) = .returned (.string b) := by rw [h]

theorem right_calls (o : Int) (w : World) : Calls Tryd.prog 38 #[.int .i64 o] w fun e w' => e = .returned (.bool (rightB o)) ∧ w = w' := by
  go_enter Tryd.func38, Tryd.ntmps38
  go_wp2
  all_goals
    go_ret
    refine ⟨ret_bool' ?_, rfl⟩
    unfold rightB
    first
    | (rw [decide_eq_true (by omega : 1 ≤ o), Bool.true_and]; done)
    | (rw [decide_eq_false (by omega : ¬ 1 ≤ o)]; rfl)
    | (rw [decide_eq_true (by omega : 1 ≤ o), decide_eq_true (by omega : o ≤ 32)]; rfl)
    | (rw [decide_eq_true (by omega : 1 ≤ o), decide_eq_false (by omega : ¬ o ≤ 32)]; rfl)

theorem Shape_calls (o : Int) (w : World) (hG : GW w) : Calls Tryd.prog 10 #[.int .i64 o] w fun e w' => e = .returned (.string (shapeB o)) ∧ w = w' := by
  by_cases h : 1 ≤ o ∧ o ≤ 32
  · have hb : rightB o = true := by unfold rightB; rw [decide_eq_true h.1, decide_eq_true h.2]; rfl
    have hc := hG.cell o.toNat (by omega)
    have he : Hid (tbl.getD o.toNat ⟨#[]⟩ = shapeB o) := hid (by unfold shapeB; rw [if_pos h])
    obtain ⟨h1, h2⟩ := h
    have h3 : 0 ≤ o := by omega
    have h4 : o < 33 := by omega
    clear hG
    generalize tbl.getD o.toNat ⟨#[]⟩ = sh at hc he
    go_enter Tryd.func10, Tryd.ntmps10
    go_wp2_with (go_at_call 38; refine (right_calls _ _).mono ?_; rintro e w' ⟨rfl, rfl⟩; rw [hb])
    go_ret
    exact ⟨ret_str he.out, rfl⟩
  · have hb : rightB o = false := by
      unfold rightB
      by_cases h1 : 1 ≤ o
      · rw [decide_eq_false (by omega : ¬ o ≤ 32), Bool.and_false]
      · rw [decide_eq_false h1, Bool.false_and]
    have he : Hid ((⟨#[]⟩ : ByteArray) = shapeB o) := hid (by unfold shapeB; rw [if_neg h])
    clear hG h
    go_enter Tryd.func10, Tryd.ntmps10
    go_wp2_with (go_at_call 38; refine (right_calls _ _).mono ?_; rintro e w' ⟨rfl, rfl⟩; rw [hb])
    go_ret
    exact ⟨ret_str he.out, rfl⟩
end Go.Proofs.YtmamaijiphdggaaDoor.Given
