/- norm.rising over four types of members. -/
import Derived.Test.YtmamaijiphdggaaDoorRightC
import Derived.Deep.RegionWith
import Derived.Deep.QuietTactic
import Derived.BigQuiet
namespace Go.Proofs.YtmamaijiphdggaaDoor.Given
set_option linter.unusedVariables false
set_option linter.unusedSimpArgs false
open Go.RowKit Go.Lib
open Go.Proofs.YtmamaijiphdggaaDoorW.PrintWords

theorem below_dn {w wr : World} (h : Below w.heap.size w wr) (n : Nat) : Below w.heap.size w (wr.drewN n) := h.trans ((grown_below (grownBy_drewN _ _ _)).mono h.size)

def risesB {α : Type} (f : α → α → Int) (l : List α) : Bool := (List.range l.length).all fun j => match l[j]?, l[j + 1]? with | some a, some b => decide (f a b < 0) | _, _ => true
def UpTo {α : Type} (f : α → α → Int) (l : List α) (i : Nat) : Prop := ∀ j, ∀ h : j + 1 < l.length, j + 1 < i → f l[j] l[j + 1] < 0
theorem rises_no {α : Type} {f : α → α → Int} {l : List α} {j : Nat} (h : j + 1 < l.length) (hf : 0 ≤ f l[j] l[j + 1]) : risesB f l = false := by
  unfold risesB
  rw [List.all_eq_false]
  refine ⟨j, List.mem_range.2 (by omega), ?_⟩
  rw [List.getElem?_eq_getElem (by omega : j < l.length), List.getElem?_eq_getElem h]
  simp; exact hf
theorem rises_yes {α : Type} {f : α → α → Int} {l : List α} {i : Nat} (h : l.length ≤ i) (hu : UpTo f l i) : risesB f l = true := by
  unfold risesB
  rw [List.all_eq_true]
  intro j hj
  have hj' := List.mem_range.1 hj
  by_cases h1 : j + 1 < l.length
  · rw [List.getElem?_eq_getElem (by omega : j < l.length), List.getElem?_eq_getElem h1]
    simp
    exact hu j h1 (by omega)
  · rw [List.getElem?_eq_none (by omega : l.length ≤ j + 1)]
    cases l[j]? <;> rfl
theorem UpTo.next {α : Type} {f : α → α → Int} {l : List α} {k : Nat} (h : k + 1 < l.length) (hu : UpTo f l (k + 1)) (hf : f l[k] l[k + 1] < 0) : UpTo f l (k + 1 + 1) := by
  intro j hj hji
  by_cases e : j = k
  · subst e; exact hf
  · exact hu j hj (by omega)

set_option maxHeartbeats 1000000 in
set_option maxRecDepth 100000 in
theorem rise65_66 (f : ByteArray → ByteArray → Int) (l : List ByteArray) (A : Option Addr) (c : Nat) (w : World) (hC : Kd.C Kd.string w A l.length l)
    (ht : ∀ (x y : ByteArray) (w' : World), Calls Tryd.prog 66 #[.string x, .string y] w' fun e w'' => e = .returned (.int .i64 (f x y)) ∧ w'' = w') :
    Calls Tryd.prog 65 #[.slice A l.length c, .func (.func 66) #[] #[]] w fun e w' => e = .returned (.bool (risesB f l)) ∧ Below w.heap.size w w' := by
  have hm : l.length ≤ 9223372036854775807 := hC.2.1
  have HC := hid hC
  have HT := hid ht
  clear hC ht
  go_enter Tryd.func65, Tryd.ntmps65
  go_wp2
  go_loopg [8] l.length (fun gk v wr => ∃ i : Nat, i ≤ l.length ∧ v = .int .i64 i ∧ gk = l.length - i ∧ Hid (UpTo f l i) ∧ Hid (Below w.heap.size w wr))
  case atStart => exact ⟨0, Nat.zero_le _, rfl, by omega, hid (fun j _ h => by omega), hid (Below.refl _ _)⟩
  case round =>
    obtain ⟨i, hi, rfl, rfl, HN, HB⟩ := hrel
    by_cases hlt : i < l.length
    · rcases i with _ | k
      · go_wp2
        go_region
        go_wp2
        go_roundg (l.length - 1)
        case rel => exact ⟨1, hlt, by go_num, rfl, hid (fun j _ h => by omega), hid HB.out.drew⟩
        case measure => omega
      · obtain ⟨ad, e, x0⟩ := at_T9 HC.out ((k : Nat) : Int) (by omega) (by omega)
        obtain ⟨ad', e', y0⟩ := at_T9 HC.out ((k + 1 : Nat) : Int) (by omega) (by omega)
        subst e
        obtain rfl : ad = ad' := Option.some.inj e'
        have er : rd_T9 l ((k : Nat) : Int) = l[k] := by simp [rd_T9, List.getD, List.getElem?_eq_getElem (by omega : k < l.length)]
        have es : rd_T9 l ((k + 1 : Nat) : Int) = l[k + 1] := by simp only [rd_T9, Int.toNat_natCast, List.getD, List.getElem?_eq_getElem hlt]; rfl
        rw [er] at x0
        rw [es] at y0
        rw [Int.toNat_natCast, Nat.mul_one] at x0 y0
        replace x0 := (HB.out.cell (World.block_lt_of_cell? w _ x0)).trans x0
        replace y0 := (HB.out.cell (World.block_lt_of_cell? w _ y0)).trans y0
        have HX := hid (HT.out l[k] l[k + 1])
        generalize hz : ((k + 1 : Nat) : Int) = z at *
        have hpos : (0 : Int) < z := by omega
        have hi1 : (0 : Int) ≤ z := by omega
        have hi2 : z < (l.length : Int) := by omega
        have hi3 : (0 : Int) ≤ z - 1 := by omega
        have hi4 : z - 1 < (l.length : Int) := by omega
        have hn1 : (-9223372036854775808 : Int) < z := by omega
        have hn2 : z ≤ 9223372036854775808 := by omega
        have hn3 : z ≤ (l.length : Int) := by omega
        have hw1 : IntKind.i64.wrap (z - 1) = (k : Int) := by rw [IntKind.wrap_i64]; omega
        have hw2 : (0 : Int) ≤ (k : Int) := by omega
        have hw3 : (k : Int) < (l.length : Int) := by omega
        have hw4 : k < l.length := by omega
        have hk1 : (z - 1).toNat = k := by omega
        obtain ⟨m, hm⟩ : ∃ m, m = k + 1 := ⟨_, rfl⟩
        replace y0 : wr.cell? (ad.add m) = some (Value.string l[k + 1]) := hm ▸ y0
        have hk2 : z.toNat = m := by omega
        have hz1 : (-9223372036854775808 : Int) ≤ z - 1 := by omega
        have hz2 : z - 1 < 9223372036854775808 := by omega
        clear er es
        have hlk : k < l.length := by omega
        have HX2 := HX
        clear HX
        generalize hgx : l[k] = gx at *
        generalize hgy : l[k+1] = gy at *
        by_cases hq : 0 ≤ f gx gy
        · have HR := hid (rises_no hlt (by rw [hgx, hgy]; exact hq))
          clear hgx hgy
          go_wp2
          clear hlt hz hm
          go_quiet ((go_at_call 66; exact Calls.quiet_of_same (HX2.out _)))
          go_wp2
          go_ret
          exact ⟨ret_bool' HR.out.symm, below_dn HB.out _⟩
        · have HR := hid (UpTo.next hlt HN.out (by rw [hgx, hgy]; omega))
          have hq' : f gx gy < 0 := by omega
          have hz3 : z + 1 = ((k + 1 + 1 : Nat) : Int) := by omega
          have hlt2 := hid hlt
          have hm1 : l.length - (k + 1 + 1) < l.length - (k + 1) := by omega
          clear hgx hgy hq
          go_wp2
          clear hlt hz hm
          go_quiet ((go_at_call 66; exact Calls.quiet_of_same (HX2.out _)))
          go_wp2
          go_roundg (l.length - (k + 1 + 1))
          case rel => exact ⟨k + 1 + 1, by have := hlt2.out; omega, by rw [← hz3]; go_num, rfl, HR, hid (below_dn HB.out _)⟩
          case measure => exact hm1
    · have HR := hid (rises_yes (by omega) HN.out)
      go_wp2
      go_ret
      exact ⟨ret_bool' HR.out.symm, HB.out⟩
end Go.Proofs.YtmamaijiphdggaaDoor.Given
