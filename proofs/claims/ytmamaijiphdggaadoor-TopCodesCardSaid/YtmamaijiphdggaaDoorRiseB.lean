/- norm.rising over fields, methods and classes: the comparers box their arguments. Printed by rise.py. -/
import Derived.Test.YtmamaijiphdggaaDoorRise
import Derived.StillTailTactics
namespace Go.Proofs.YtmamaijiphdggaaDoor.Given
set_option linter.unusedVariables false
set_option linter.unusedSimpArgs false
open Go.RowKit Go.Lib
open Go.Proofs.YtmamaijiphdggaaDoorW.PrintWords

set_option maxHeartbeats 4000000 in
set_option maxRecDepth 100000 in
theorem rise67_68 (f : S83 → S83 → Int) (l : List S83) (A : Option Addr) (c : Nat) (w : World) (hC : Kd.C k83 w A l.length l)
    (ht : ∀ (x y : S83) (w' : World), Calls Tryd.prog 68 #[T83V x, T83V y] w' fun e w'' => e = .returned (.int .i64 (f x y)) ∧ Below w'.heap.size w' w'') :
    Calls Tryd.prog 67 #[.slice A l.length c, .func (.func 68) #[] #[]] w fun e w' => e = .returned (.bool (risesB f l)) ∧ Below w.heap.size w w' := by
  have hm : l.length ≤ 9223372036854775807 := hC.2.1
  have HC := hid hC
  have HT := hid ht
  clear hC ht
  go_enter Tryd.func67, Tryd.ntmps67
  go_wp2
  go_loopg [8] l.length (fun gk v wr => ∃ i : Nat, i ≤ l.length ∧ v = .int .i64 i ∧ gk = l.length - i ∧ Hid (UpTo f l i) ∧ Hid (Below w.heap.size w wr))
  case atStart => exact ⟨0, Nat.zero_le _, rfl, by omega, hid (fun j _ h => by omega), hid (Below.refl _ _)⟩
  case round =>
    obtain ⟨i, hi, rfl, rfl, HN, HB⟩ := hrel
    by_cases hlt : i < l.length
    · rcases i with _ | k
      · go_wp2
        go_region
        go_wp2
        go_roundg (l.length - 1)
        case rel => exact ⟨1, hlt, by go_num, rfl, hid (fun j _ h => by omega), hid HB.out.drew⟩
        case measure => omega
      · obtain ⟨ad, e, x0, x1, x2, x3⟩ := at_T83 HC.out ((k : Nat) : Int) (by omega) (by omega)
        obtain ⟨ady, ey, y0, y1, y2, y3⟩ := at_T83 HC.out ((k + 1 : Nat) : Int) (by omega) (by omega)
        subst e
        obtain rfl : ad = ady := Option.some.inj ey
        have er : rd_T83 l ((k : Nat) : Int) = l[k] := by simp [rd_T83, List.getD, List.getElem?_eq_getElem (by omega : k < l.length)]
        have es : rd_T83 l ((k + 1 : Nat) : Int) = l[k + 1] := by simp only [rd_T83, Int.toNat_natCast, List.getD, List.getElem?_eq_getElem hlt]; rfl
        rw [er] at x0 x1 x2 x3 
        rw [es] at y0 y1 y2 y3 
        rw [Int.toNat_natCast] at x0 x1 x2 x3 y0 y1 y2 y3
        replace x0 := (HB.out.cell (World.block_lt_of_cell? w _ x0)).trans x0
        replace x1 := (HB.out.cell (World.block_lt_of_cell? w _ x1)).trans x1
        replace x2 := (HB.out.cell (World.block_lt_of_cell? w _ x2)).trans x2
        replace x3 := (HB.out.cell (World.block_lt_of_cell? w _ x3)).trans x3
        replace y0 := (HB.out.cell (World.block_lt_of_cell? w _ y0)).trans y0
        replace y1 := (HB.out.cell (World.block_lt_of_cell? w _ y1)).trans y1
        replace y2 := (HB.out.cell (World.block_lt_of_cell? w _ y2)).trans y2
        replace y3 := (HB.out.cell (World.block_lt_of_cell? w _ y3)).trans y3
        have HX2 := hid (HT.out l[k] l[k + 1])
        clear er es  
        generalize hgx : l[k] = gx at *
        generalize hgy : l[k + 1] = gy at *
        generalize hz : ((k + 1 : Nat) : Int) = z at *
        have hpos : (0 : Int) < z := by omega
        have hi1 : (0 : Int) ≤ z := by omega
        have hi2 : z < (l.length : Int) := by omega
        have hw1 : IntKind.i64.wrap (z - 1) = (k : Int) := by rw [IntKind.wrap_i64]; omega
        have hw2 : (0 : Int) ≤ (k : Int) := by omega
        have hw3 : (k : Int) < (l.length : Int) := by omega
        have hw4 : k < l.length := by omega
        obtain ⟨m, hm'⟩ : ∃ m, m = k + 1 := ⟨_, rfl⟩
        rw [← hm'] at y0 y1 y2 y3
        have hk2 : z.toNat = m := by omega
        by_cases hq : 0 ≤ f gx gy
        · have HR := hid (rises_no hlt (by rw [hgx, hgy]; exact hq))
          clear hgx hgy
          go_wp2
          clear hlt hz hm'
          go_still_tail 13, (by kernel_rfl)
          change wpList _ _ _ _ _ wr.drew
          have HB2 := hid (below_dn HB.out 1)
          change Hid (Below w.heap.size w wr.drew) at HB2
          generalize wr.drew = wd at *
          go_wp2_with (go_at_call 68; refine (HX2.out _).mono ?_; rintro e w' ⟨rfl, hb⟩)
          go_ret
          exact ⟨ret_bool' HR.out.symm, HB2.out.trans (hb.mono HB2.out.size)⟩
        · have HR := hid (UpTo.next hlt HN.out (by rw [hgx, hgy]; omega))
          have hq' : f gx gy < 0 := by omega
          have hz3 : z + 1 = ((k + 1 + 1 : Nat) : Int) := by omega
          have hlt2 := hid hlt
          have hm1 : l.length - (k + 1 + 1) < l.length - (k + 1) := by omega
          clear hgx hgy hq
          go_wp2
          clear hlt hz hm'
          go_still_tail 13, (by kernel_rfl)
          change wpList _ _ _ _ _ wr.drew
          have HB2 := hid (below_dn HB.out 1)
          change Hid (Below w.heap.size w wr.drew) at HB2
          generalize wr.drew = wd at *
          go_wp2_with (go_at_call 68; refine (HX2.out _).mono ?_; rintro e w' ⟨rfl, hb⟩)
          go_roundg (l.length - (k + 1 + 1))
          case rel => exact ⟨k + 1 + 1, by have := hlt2.out; omega, by rw [← hz3]; go_num, rfl, HR, hid (HB2.out.trans (hb.mono HB2.out.size))⟩
          case measure => exact hm1
    · have HR := hid (rises_yes (by omega) HN.out)
      go_wp2
      go_ret
      exact ⟨ret_bool' HR.out.symm, HB.out⟩

set_option maxHeartbeats 4000000 in
set_option maxRecDepth 100000 in
theorem rise69_70 (f : S40 → S40 → Int) (l : List S40) (A : Option Addr) (c : Nat) (w : World) (hC : Kd.C k40 w A l.length l)
    (ht : ∀ (x y : S40) (A5 : Option Addr) (c5 : Nat) (A5y : Option Addr) (c5y : Nat) (w' : World), Calls Tryd.prog 70 #[T40V x A5 c5, T40V y A5y c5y] w' fun e w'' => e = .returned (.int .i64 (f x y)) ∧ Below w'.heap.size w' w'') :
    Calls Tryd.prog 69 #[.slice A l.length c, .func (.func 70) #[] #[]] w fun e w' => e = .returned (.bool (risesB f l)) ∧ Below w.heap.size w w' := by
  have hm : l.length ≤ 9223372036854775807 := hC.2.1
  have HC := hid hC
  have HT := hid ht
  clear hC ht
  go_enter Tryd.func69, Tryd.ntmps69
  go_wp2
  go_loopg [8] l.length (fun gk v wr => ∃ i : Nat, i ≤ l.length ∧ v = .int .i64 i ∧ gk = l.length - i ∧ Hid (UpTo f l i) ∧ Hid (Below w.heap.size w wr))
  case atStart => exact ⟨0, Nat.zero_le _, rfl, by omega, hid (fun j _ h => by omega), hid (Below.refl _ _)⟩
  case round =>
    obtain ⟨i, hi, rfl, rfl, HN, HB⟩ := hrel
    by_cases hlt : i < l.length
    · rcases i with _ | k
      · go_wp2
        go_region
        go_wp2
        go_roundg (l.length - 1)
        case rel => exact ⟨1, hlt, by go_num, rfl, hid (fun j _ h => by omega), hid HB.out.drew⟩
        case measure => omega
      · obtain ⟨ad, A5, c5, e, x0, x1, x2, x3, x4, x5, l5, g5⟩ := at_T40 HC.out ((k : Nat) : Int) (by omega) (by omega)
        obtain ⟨ady, A5y, c5y, ey, y0, y1, y2, y3, y4, y5, l5y, g5y⟩ := at_T40 HC.out ((k + 1 : Nat) : Int) (by omega) (by omega)
        subst e
        obtain rfl : ad = ady := Option.some.inj ey
        have er : rd_T40 l ((k : Nat) : Int) = l[k] := by simp [rd_T40, List.getD, List.getElem?_eq_getElem (by omega : k < l.length)]
        have es : rd_T40 l ((k + 1 : Nat) : Int) = l[k + 1] := by simp only [rd_T40, Int.toNat_natCast, List.getD, List.getElem?_eq_getElem hlt]; rfl
        rw [er] at x0 x1 x2 x3 x4 x5 l5 g5
        rw [es] at y0 y1 y2 y3 y4 y5 l5y g5y
        rw [Int.toNat_natCast] at x0 x1 x2 x3 x4 x5 y0 y1 y2 y3 y4 y5
        replace x0 := (HB.out.cell (World.block_lt_of_cell? w _ x0)).trans x0
        replace x1 := (HB.out.cell (World.block_lt_of_cell? w _ x1)).trans x1
        replace x2 := (HB.out.cell (World.block_lt_of_cell? w _ x2)).trans x2
        replace x3 := (HB.out.cell (World.block_lt_of_cell? w _ x3)).trans x3
        replace x4 := (HB.out.cell (World.block_lt_of_cell? w _ x4)).trans x4
        replace x5 := (HB.out.cell (World.block_lt_of_cell? w _ x5)).trans x5
        replace y0 := (HB.out.cell (World.block_lt_of_cell? w _ y0)).trans y0
        replace y1 := (HB.out.cell (World.block_lt_of_cell? w _ y1)).trans y1
        replace y2 := (HB.out.cell (World.block_lt_of_cell? w _ y2)).trans y2
        replace y3 := (HB.out.cell (World.block_lt_of_cell? w _ y3)).trans y3
        replace y4 := (HB.out.cell (World.block_lt_of_cell? w _ y4)).trans y4
        replace y5 := (HB.out.cell (World.block_lt_of_cell? w _ y5)).trans y5
        have HX2 := hid (HT.out l[k] l[k + 1] A5 c5 A5y c5y)
        clear er es l5 g5 l5y g5y
        generalize hgx : l[k] = gx at *
        generalize hgy : l[k + 1] = gy at *
        generalize hz : ((k + 1 : Nat) : Int) = z at *
        have hpos : (0 : Int) < z := by omega
        have hi1 : (0 : Int) ≤ z := by omega
        have hi2 : z < (l.length : Int) := by omega
        have hw1 : IntKind.i64.wrap (z - 1) = (k : Int) := by rw [IntKind.wrap_i64]; omega
        have hw2 : (0 : Int) ≤ (k : Int) := by omega
        have hw3 : (k : Int) < (l.length : Int) := by omega
        have hw4 : k < l.length := by omega
        obtain ⟨m, hm'⟩ : ∃ m, m = k + 1 := ⟨_, rfl⟩
        rw [← hm'] at y0 y1 y2 y3 y4 y5
        have hk2 : z.toNat = m := by omega
        by_cases hq : 0 ≤ f gx gy
        · have HR := hid (rises_no hlt (by rw [hgx, hgy]; exact hq))
          clear hgx hgy
          go_wp2
          clear hlt hz hm'
          go_still_tail 13, (by kernel_rfl)
          change wpList _ _ _ _ _ wr.drew
          have HB2 := hid (below_dn HB.out 1)
          change Hid (Below w.heap.size w wr.drew) at HB2
          generalize wr.drew = wd at *
          go_wp2_with (go_at_call 70; refine (HX2.out _).mono ?_; rintro e w' ⟨rfl, hb⟩)
          go_ret
          exact ⟨ret_bool' HR.out.symm, HB2.out.trans (hb.mono HB2.out.size)⟩
        · have HR := hid (UpTo.next hlt HN.out (by rw [hgx, hgy]; omega))
          have hq' : f gx gy < 0 := by omega
          have hz3 : z + 1 = ((k + 1 + 1 : Nat) : Int) := by omega
          have hlt2 := hid hlt
          have hm1 : l.length - (k + 1 + 1) < l.length - (k + 1) := by omega
          clear hgx hgy hq
          go_wp2
          clear hlt hz hm'
          go_still_tail 13, (by kernel_rfl)
          change wpList _ _ _ _ _ wr.drew
          have HB2 := hid (below_dn HB.out 1)
          change Hid (Below w.heap.size w wr.drew) at HB2
          generalize wr.drew = wd at *
          go_wp2_with (go_at_call 70; refine (HX2.out _).mono ?_; rintro e w' ⟨rfl, hb⟩)
          go_roundg (l.length - (k + 1 + 1))
          case rel => exact ⟨k + 1 + 1, by have := hlt2.out; omega, by rw [← hz3]; go_num, rfl, HR, hid (HB2.out.trans (hb.mono HB2.out.size))⟩
          case measure => exact hm1
    · have HR := hid (rises_yes (by omega) HN.out)
      go_wp2
      go_ret
      exact ⟨ret_bool' HR.out.symm, HB.out⟩

set_option maxHeartbeats 4000000 in
set_option maxRecDepth 100000 in
theorem rise62_63 (f : S37 → S37 → Int) (l : List S37) (A : Option Addr) (c : Nat) (w : World) (hC : Kd.C k37 w A l.length l)
    (ht : ∀ (x y : S37) (A4 : Option Addr) (c4 : Nat) (A5 : Option Addr) (c5 : Nat) (A6 : Option Addr) (c6 : Nat) (A4y : Option Addr) (c4y : Nat) (A5y : Option Addr) (c5y : Nat) (A6y : Option Addr) (c6y : Nat) (w' : World), Calls Tryd.prog 63 #[T37V x A4 c4 A5 c5 A6 c6, T37V y A4y c4y A5y c5y A6y c6y] w' fun e w'' => e = .returned (.int .i64 (f x y)) ∧ Below w'.heap.size w' w'') :
    Calls Tryd.prog 62 #[.slice A l.length c, .func (.func 63) #[] #[]] w fun e w' => e = .returned (.bool (risesB f l)) ∧ Below w.heap.size w w' := by
  have hm : l.length ≤ 9223372036854775807 := hC.2.1
  have HC := hid hC
  have HT := hid ht
  clear hC ht
  go_enter Tryd.func62, Tryd.ntmps62
  go_wp2
  go_loopg [8] l.length (fun gk v wr => ∃ i : Nat, i ≤ l.length ∧ v = .int .i64 i ∧ gk = l.length - i ∧ Hid (UpTo f l i) ∧ Hid (Below w.heap.size w wr))
  case atStart => exact ⟨0, Nat.zero_le _, rfl, by omega, hid (fun j _ h => by omega), hid (Below.refl _ _)⟩
  case round =>
    obtain ⟨i, hi, rfl, rfl, HN, HB⟩ := hrel
    by_cases hlt : i < l.length
    · rcases i with _ | k
      · go_wp2
        go_region
        go_wp2
        go_roundg (l.length - 1)
        case rel => exact ⟨1, hlt, by go_num, rfl, hid (fun j _ h => by omega), hid HB.out.drew⟩
        case measure => omega
      · obtain ⟨ad, A4, c4, A5, c5, A6, c6, e, x0, x1, x2, x3, x4, x5, x6, l4, g4, l5, g5, l6, g6⟩ := at_T37 HC.out ((k : Nat) : Int) (by omega) (by omega)
        obtain ⟨ady, A4y, c4y, A5y, c5y, A6y, c6y, ey, y0, y1, y2, y3, y4, y5, y6, l4y, g4y, l5y, g5y, l6y, g6y⟩ := at_T37 HC.out ((k + 1 : Nat) : Int) (by omega) (by omega)
        subst e
        obtain rfl : ad = ady := Option.some.inj ey
        have er : rd_T37 l ((k : Nat) : Int) = l[k] := by simp [rd_T37, List.getD, List.getElem?_eq_getElem (by omega : k < l.length)]
        have es : rd_T37 l ((k + 1 : Nat) : Int) = l[k + 1] := by simp only [rd_T37, Int.toNat_natCast, List.getD, List.getElem?_eq_getElem hlt]; rfl
        rw [er] at x0 x1 x2 x3 x4 x5 x6 l4 g4 l5 g5 l6 g6
        rw [es] at y0 y1 y2 y3 y4 y5 y6 l4y g4y l5y g5y l6y g6y
        rw [Int.toNat_natCast] at x0 x1 x2 x3 x4 x5 x6 y0 y1 y2 y3 y4 y5 y6
        replace x0 := (HB.out.cell (World.block_lt_of_cell? w _ x0)).trans x0
        replace x1 := (HB.out.cell (World.block_lt_of_cell? w _ x1)).trans x1
        replace x2 := (HB.out.cell (World.block_lt_of_cell? w _ x2)).trans x2
        replace x3 := (HB.out.cell (World.block_lt_of_cell? w _ x3)).trans x3
        replace x4 := (HB.out.cell (World.block_lt_of_cell? w _ x4)).trans x4
        replace x5 := (HB.out.cell (World.block_lt_of_cell? w _ x5)).trans x5
        replace x6 := (HB.out.cell (World.block_lt_of_cell? w _ x6)).trans x6
        replace y0 := (HB.out.cell (World.block_lt_of_cell? w _ y0)).trans y0
        replace y1 := (HB.out.cell (World.block_lt_of_cell? w _ y1)).trans y1
        replace y2 := (HB.out.cell (World.block_lt_of_cell? w _ y2)).trans y2
        replace y3 := (HB.out.cell (World.block_lt_of_cell? w _ y3)).trans y3
        replace y4 := (HB.out.cell (World.block_lt_of_cell? w _ y4)).trans y4
        replace y5 := (HB.out.cell (World.block_lt_of_cell? w _ y5)).trans y5
        replace y6 := (HB.out.cell (World.block_lt_of_cell? w _ y6)).trans y6
        have HX2 := hid (HT.out l[k] l[k + 1] A4 c4 A5 c5 A6 c6 A4y c4y A5y c5y A6y c6y)
        clear er es l4 g4 l5 g5 l6 g6 l4y g4y l5y g5y l6y g6y
        generalize hgx : l[k] = gx at *
        generalize hgy : l[k + 1] = gy at *
        generalize hz : ((k + 1 : Nat) : Int) = z at *
        have hpos : (0 : Int) < z := by omega
        have hi1 : (0 : Int) ≤ z := by omega
        have hi2 : z < (l.length : Int) := by omega
        have hw1 : IntKind.i64.wrap (z - 1) = (k : Int) := by rw [IntKind.wrap_i64]; omega
        have hw2 : (0 : Int) ≤ (k : Int) := by omega
        have hw3 : (k : Int) < (l.length : Int) := by omega
        have hw4 : k < l.length := by omega
        obtain ⟨m, hm'⟩ : ∃ m, m = k + 1 := ⟨_, rfl⟩
        rw [← hm'] at y0 y1 y2 y3 y4 y5 y6
        have hk2 : z.toNat = m := by omega
        by_cases hq : 0 ≤ f gx gy
        · have HR := hid (rises_no hlt (by rw [hgx, hgy]; exact hq))
          clear hgx hgy
          go_wp2
          clear hlt hz hm'
          go_still_tail 13, (by kernel_rfl)
          change wpList _ _ _ _ _ wr.drew
          have HB2 := hid (below_dn HB.out 1)
          change Hid (Below w.heap.size w wr.drew) at HB2
          generalize wr.drew = wd at *
          go_wp2_with (go_at_call 63; refine (HX2.out _).mono ?_; rintro e w' ⟨rfl, hb⟩)
          go_ret
          exact ⟨ret_bool' HR.out.symm, HB2.out.trans (hb.mono HB2.out.size)⟩
        · have HR := hid (UpTo.next hlt HN.out (by rw [hgx, hgy]; omega))
          have hq' : f gx gy < 0 := by omega
          have hz3 : z + 1 = ((k + 1 + 1 : Nat) : Int) := by omega
          have hlt2 := hid hlt
          have hm1 : l.length - (k + 1 + 1) < l.length - (k + 1) := by omega
          clear hgx hgy hq
          go_wp2
          clear hlt hz hm'
          go_still_tail 13, (by kernel_rfl)
          change wpList _ _ _ _ _ wr.drew
          have HB2 := hid (below_dn HB.out 1)
          change Hid (Below w.heap.size w wr.drew) at HB2
          generalize wr.drew = wd at *
          go_wp2_with (go_at_call 63; refine (HX2.out _).mono ?_; rintro e w' ⟨rfl, hb⟩)
          go_roundg (l.length - (k + 1 + 1))
          case rel => exact ⟨k + 1 + 1, by have := hlt2.out; omega, by rw [← hz3]; go_num, rfl, HR, hid (HB2.out.trans (hb.mono HB2.out.size))⟩
          case measure => exact hm1
    · have HR := hid (rises_yes (by omega) HN.out)
      go_wp2
      go_ret
      exact ⟨ret_bool' HR.out.symm, HB.out⟩
end Go.Proofs.YtmamaijiphdggaaDoor.Given
