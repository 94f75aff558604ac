/- norm.least, abstract, concrete, method: which methods can be. -/
import Derived.Test.YtmamaijiphdggaaDoorRightA
import Derived.Test.YtmamaijiphdggaaDoorFits
namespace Go.Proofs.YtmamaijiphdggaaDoor.Given
set_option linter.unusedVariables false
set_option linter.unusedSimpArgs false
open Go.RowKit Go.Lib
open Go.Proofs.YtmamaijiphdggaaDoorW.PrintWords

/-! What is small enough to be gone through. -/
def okI (y : S44) : Prop := y.f8.length ≤ 1000000 ∧ y.f7.size ≤ 140737488351232 ∧ y.f5.size ≤ 140737488351232 ∧ y.f6.size ≤ 140737488351232
def okM (x : S40) : Prop := x.f0.size ≤ 140737488351232 ∧ x.f1.size ≤ 140737488351232 ∧ ∀ y ∈ x.f5, okI y
def okF (x : S83) : Prop := x.f0.size ≤ 9223372036854775807 ∧ x.f1.f1.size ≤ 9223372036854775807
def okC (x : S37) : Prop := x.f0.size ≤ 9223372036854775807 ∧ x.f1.size ≤ 9223372036854775807 ∧ (∀ s ∈ x.f4, s.size ≤ 9223372036854775807) ∧ (∀ f ∈ x.f5, okF f) ∧ ∀ m ∈ x.f6, okM m

/-- A method's box. -/
abbrev mCells (x : S40) (A5 : Option Addr) (c5 : Nat) : Array Value := #[.string x.f0, .string x.f1, .bool x.f2, .bool x.f3, .int .i64 x.f4, .slice A5 x.f5.length c5]

def instrOk (x : S40) (y : S44) : Bool := fitsB y.f0 y.f1 y.f2 y.f3 y.f4 y.f5 y.f6 y.f7 y.f8 x.f4 x.f5.length == 0
theorem instrOk_calls (x : S40) (A5 : Option Addr) (c5 : Nat) (b : Nat) (y : S44) (A8 : Option Addr) (c8 : Nat) (w : World) (hG : GW w) (hb : w.heap[b]? = some (.cells (mCells x A5 c5) 40 (0, 0)))
    (hy : okI y) (hC : (Kd.int .i64).C w A8 y.f8.length y.f8) :
    Calls Tryd.prog 110 #[T44V y A8 c8, .pointer (some ⟨b, 0, none⟩)] w fun e w' => e = .returned (.bool (instrOk x y)) ∧ Below w.heap.size w w' := by
  have hB : Below w.heap.size w (w.alloc (.cells #[.int .i64 y.f0, .int .i64 y.f1, .int .i64 y.f2, .int .i64 y.f3, .int .i64 y.f4, .string y.f5, .string y.f6, .string y.f7, .slice A8 y.f8.length c8] 44)) := (Below.refl _ _).alloc (Nat.le_refl _) _
  have hk := box_keep (w0 := w) hb hB
  have k4 := boxc hk 4 rfl
  have k5 := boxc hk 5 rfl
  have hlt := (Array.getElem?_eq_some_iff.1 hb).1
  have hne : b ≠ w.heap.size := Nat.ne_of_lt hlt
  have HF := hid (Fits_calls y.f0 y.f1 y.f2 y.f3 y.f4 y.f5 y.f6 y.f7 A8 c8 y.f8 x.f4 x.f5.length hy.1 hy.2.1 hy.2.2.1 hy.2.2.2 _ (hG.below hB) (Kd.C_below hC hB))
  unfold instrOk
  generalize fitsB y.f0 y.f1 y.f2 y.f3 y.f4 y.f5 y.f6 y.f7 y.f8 x.f4 x.f5.length = r at *
  go_enter Tryd.func110, Tryd.ntmps110
  go_wp2_with (go_at_call 23; refine HF.out.mono ?_; rintro e w' ⟨rfl, hb2⟩)
  go_ret
  exact ⟨rfl, hB.trans (hb2.mono (by simp))⟩

def abstractB (x : S40) : Bool := !x.f2 && (!(x.f0.toList == clinit.toList) && (decide (x.f5.length = 0) && decide (x.f4 = 0)))
theorem clinit_list : clinit.toList = [60, 99, 108, 105, 110, 105, 116, 62] := by decide +kernel
theorem abstract_calls (x : S40) (A5 : Option Addr) (c5 : Nat) (w : World) :
    Calls Tryd.prog 92 #[T40V x A5 c5] w fun e w' => e = .returned (.bool (abstractB x)) ∧ Below w.heap.size w w' := by
  have hr : abstractB x = (!x.f2 && (!(x.f0.toList == clinit.toList) && (decide (x.f5.length = 0) && decide (x.f4 = 0)))) := rfl
  generalize abstractB x = r at *
  go_enter Tryd.func92, Tryd.ntmps92
  go_wp2
  all_goals
    go_ret
    refine ⟨ret_bool' ?_, (Below.refl _ _).alloc (Nat.le_refl _) _⟩
    simp [hr, clinit_list, *]
  by_cases h4 : x.f4 = 0 <;> simp [h4]

def concreteB (x : S40) (n : Int) : Bool :=
  !(decide ((x.f5.length : Int) < 1) || (decide (256 < (x.f5.length : Int)) || decide (x.f4 < n))) && (!(x.f0.toList == clinit.toList && (!x.f2 || !(x.f1.toList == [40, 41, 86]))) && x.f5.all (instrOk x))
set_option maxHeartbeats 1000000 in
theorem concrete_calls (x : S40) (A5 : Option Addr) (c5 : Nat) (n : Int) (w : World) (hG : GW w) (hx : okM x) (hC : k44.C w A5 x.f5.length x.f5) :
    Calls Tryd.prog 93 #[T40V x A5 c5, .int .i64 n] w fun e w' => e = .returned (.bool (concreteB x n)) ∧ Below w.heap.size w w' := by
  have hB : Below w.heap.size w (w.alloc (.cells (mCells x A5 c5) 40)) := (Below.refl _ _).alloc (Nat.le_refl _) _
  have hbox : (w.alloc (.cells (mCells x A5 c5) 40)).heap[w.heap.size]? = some (.cells (mCells x A5 c5) 40 (0, 0)) := al_new' w _
  have H1 := hid (each44_110 (instrOk x) ⟨w.heap.size, 0, none⟩ x.f5 A5 c5 _ (Kd.C_below hC hB) (fun w' hb y hy A8 c8 _ h8 =>
    instrOk_calls x A5 c5 w.heap.size y A8 c8 w' ((hG.below hB).below hb) (box_keep (w0 := w) hbox hb) (hx.2.2 y hy) h8))
  have hr : concreteB x n = (!(decide ((x.f5.length : Int) < 1) || (decide (256 < (x.f5.length : Int)) || decide (x.f4 < n))) && (!(x.f0.toList == clinit.toList && (!x.f2 || !(x.f1.toList == [40, 41, 86]))) && x.f5.all (instrOk x))) := rfl
  generalize concreteB x n = r at *
  generalize x.f5.all (instrOk x) = q at *
  obtain ⟨f0, f1, f2, f3, f4, f5⟩ := x
  dsimp only at *
  clear hC hx
  have hmf : ∀ (fn : Fn) (first cap : Array Value) (w : World), (Instr.makeFunc fn first cap).run Tryd.prog w = .ok (.func fn first cap) w := fun _ _ _ _ => rfl
  cases f2
  all_goals
    go_enter Tryd.func93, Tryd.ntmps93
    go_wp2_with (go_at_call 109; refine (H1.out).mono ?_; rintro e w1 ⟨rfl, hb1⟩)
    all_goals
      go_ret
      refine ⟨ret_bool' ?_, (by first | exact (Below.refl _ _).alloc (Nat.le_refl _) _ | exact hB.trans (hb1.mono (by simp)))⟩
      clear H1 hB hbox hG hmf
      by_cases k1 : (f5.length : Int) < 1 <;> by_cases k2 : 256 < (f5.length : Int) <;> by_cases k3 : f4 < n <;> simp_all [clinit_list] <;> omega

def leastN (x : S40) : Int := if x.f2 = true then ((splitB x.f1).1.length : Int) else ((splitB x.f1).1.length : Int) + 1
def leastA (x : S40) : Bool := (splitB x.f1).2.2.2 == 0
theorem least_calls (x : S40) (A5 : Option Addr) (c5 : Nat) (hs : x.f1.size ≤ 140737488351232) (w : World) :
    Calls Tryd.prog 91 #[T40V x A5 c5] w fun e w' => e = .returned (.tuple #[.int .i64 (leastN x), .bool (leastA x)]) ∧ Below w.heap.size w w' := by
  have e1 := fun w => Split_calls x.f1 hs w
  have hl := splitB_len x.f1
  have hN : Hid ((if x.f2 = true then ((splitB x.f1).1.length : Int) else ((splitB x.f1).1.length : Int) + 1) = leastN x) := hid rfl
  have hA : Hid (((splitB x.f1).2.2.2 == 0) = leastA x) := hid rfl
  generalize splitB x.f1 = S at *
  generalize leastN x = rN at *
  generalize leastA x = rA at *
  obtain ⟨l, rk, rc, er⟩ := S
  have hbox : (w.alloc (.cells (mCells x A5 c5) 40)).heap[w.heap.size]? = some (.cells (mCells x A5 c5) 40 (0, 0)) := al_new' w _
  obtain ⟨f0, f1, f2, f3, f4, f5⟩ := x
  simp only at e1 hl hN hA
  cases f2
  all_goals
    go_enter Tryd.func91, Tryd.ntmps91
    go_wp2_with (go_at_call 74; refine (e1 _).mono ?_; rintro e w' ⟨v, rfl, hr, hb⟩
                 obtain ⟨A1, cap1, hv⟩ := Kd.R_slice hr
                 subst hv
                 have hk := box_keep (w0 := w) hbox hb
                 have c2 := boxc hk 2 rfl
                 have hlt : w.heap.size < w'.heap.size := by have := hb.size; rw [al_size] at this; omega
                 have hne : w.heap.size ≠ w'.heap.size := Nat.ne_of_lt hlt
                 have hBb : Below w.heap.size w w' := ((Below.refl _ _).alloc (Nat.le_refl _) _).trans (hb.mono (by rw [al_size]; omega)))
    go_ret2
    refine ⟨by rw [← hN.out, ← hA.out]; simp, hBb.alloc (by omega) _⟩

def methodB (x : S40) : Bool :=
  !(!leastA x || (!nameB x.f0 || (decide (x.f4 < 0) || decide (32 < x.f4)))) && (if x.f3 = true then abstractB x else concreteB x (leastN x))
set_option maxHeartbeats 1000000 in
theorem method_calls (x : S40) (A5 : Option Addr) (c5 : Nat) (w : World) (hG : GW w) (hx : okM x) (hC : k44.C w A5 x.f5.length x.f5) :
    Calls Tryd.prog 60 #[T40V x A5 c5] w fun e w' => e = .returned (.bool (methodB x)) ∧ Below w.heap.size w w' := by
  have hB : Below w.heap.size w (w.alloc (.cells (mCells x A5 c5) 40)) := (Below.refl _ _).alloc (Nat.le_refl _) _
  have hbox : (w.alloc (.cells (mCells x A5 c5) 40)).heap[w.heap.size]? = some (.cells (mCells x A5 c5) 40 (0, 0)) := al_new' w _
  have H1 := hid (fun w' => least_calls x A5 c5 hx.2.1 w')
  have H2 := hid (fun w' => abstract_calls x A5 c5 w')
  have H3 := hid (fun w' (hb : Below w.heap.size w w') => concrete_calls x A5 c5 (leastN x) w' (hG.below hb) hx (Kd.C_below hC hb))
  have H4 := hid (fun w' => Name_calls x.f0 (by have := hx.1; omega) w')
  have hr : Hid ((!(!leastA x || (!nameB x.f0 || (decide (x.f4 < 0) || decide (32 < x.f4)))) && (if x.f3 = true then abstractB x else concreteB x (leastN x))) = methodB x) := hid rfl
  change Hid (∀ w', Calls Tryd.prog 61 #[.string x.f0] w' fun e w'' => e = .returned (.bool (nameB x.f0)) ∧ w' = w'') at H4
  generalize methodB x = r at *
  generalize concreteB x (leastN x) = q3 at *
  generalize abstractB x = q2 at *
  generalize nameB x.f0 = q1 at *
  generalize leastA x = q0 at *
  generalize leastN x = n at *
  obtain ⟨f0, f1, f2, f3, f4, f5⟩ := x
  dsimp only at *
  clear hC hx
  cases f3
  all_goals
    go_enter Tryd.func60, Tryd.ntmps60
    go_wp2_with (first
      | (go_at_call 91; refine (H1.out _).mono ?_; rintro e w1 ⟨rfl, hb1⟩
         have hk := box_keep (w0 := w) hbox hb1
         have c0 := boxc hk 0 rfl
         have c1 := boxc hk 1 rfl
         have c2 := boxc hk 2 rfl
         have c3 := boxc hk 3 rfl
         have c4 := boxc hk 4 rfl
         have c5' := boxc hk 5 rfl
         replace hB := hB.trans (hb1.mono (by simp)))
      | (go_at_call 61; refine (H4.out _).mono ?_; rintro e w2 ⟨rfl, rfl⟩)
      | (go_at_call 92; refine (H2.out _).mono ?_; rintro e w2 ⟨rfl, hb2⟩
         replace hB := hB.trans (hb2.mono hB.size))
      | (go_at_call 93; refine (H3.out _ hB).mono ?_; rintro e w2 ⟨rfl, hb2⟩
         replace hB := hB.trans (hb2.mono hB.size)))
    all_goals
      go_ret
      refine ⟨ret_bool' ?_, hB⟩
      try rw [← hr.out]
      clear hr H1 H2 H3 H4 hB hbox hG
      by_cases k1 : f4 < 0 <;> by_cases k2 : 32 < f4 <;> simp_all <;> omega
end Go.Proofs.YtmamaijiphdggaaDoor.Given
