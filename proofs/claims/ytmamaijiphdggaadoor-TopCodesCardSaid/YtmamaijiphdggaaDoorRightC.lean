/- norm.field, class, entry: which classes can be. -/
import Derived.Test.YtmamaijiphdggaaDoorRightB
namespace Go.Proofs.YtmamaijiphdggaaDoor.Given
set_option linter.unusedVariables false
set_option linter.unusedSimpArgs false
open Go.RowKit Go.Lib
open Go.Proofs.YtmamaijiphdggaaDoorW.PrintWords

abbrev cCells (y : S37) (A4 : Option Addr) (c4 : Nat) (A5 : Option Addr) (c5 : Nat) (A6 : Option Addr) (c6 : Nat) : Array Value := #[.string y.f0, .string y.f1, .bool y.f2, .bool y.f3, .slice A4 y.f4.length c4, .slice A5 y.f5.length c5, .slice A6 y.f6.length c6]

def clsM (y : S37) (x : S40) : Bool := methodB x && ((!y.f2 || x.f3) && (!x.f3 || y.f3))
theorem clsM_calls (y : S37) (A4 : Option Addr) (c4 : Nat) (B5 : Option Addr) (d5 : Nat) (A6 : Option Addr) (c6 : Nat) (b : Nat) (x : S40) (A5 : Option Addr) (c5 : Nat) (w : World) (hG : GW w)
    (hb : w.heap[b]? = some (.cells (cCells y A4 c4 B5 d5 A6 c6) 37 (0, 0))) (hx : okM x) (hC : k44.C w A5 x.f5.length x.f5) :
    Calls Tryd.prog 59 #[T40V x A5 c5, .pointer (some ⟨b, 0, none⟩)] w fun e w' => e = .returned (.bool (clsM y x)) ∧ Below w.heap.size w w' := by
  have hB : Below w.heap.size w (w.alloc (.cells (mCells x A5 c5) 40)) := (Below.refl _ _).alloc (Nat.le_refl _) _
  have hbox : (w.alloc (.cells (mCells x A5 c5) 40)).heap[w.heap.size]? = some (.cells (mCells x A5 c5) 40 (0, 0)) := al_new' w _
  have hk0 := box_keep (w0 := w) hb hB
  have hlt := (Array.getElem?_eq_some_iff.1 hb).1
  have hne : b ≠ w.heap.size := Nat.ne_of_lt hlt
  have H1 := hid (fun w' (hb : Below w.heap.size w w') => method_calls x A5 c5 w' (hG.below hb) hx (Kd.C_below hC hb))
  have hr : Hid ((methodB x && ((!y.f2 || x.f3) && (!x.f3 || y.f3))) = clsM y x) := hid rfl
  generalize clsM y x = r at *
  generalize methodB x = q at *
  obtain ⟨f0, f1, f2, f3, f4, f5⟩ := x
  obtain ⟨g0, g1, g2, g3, g4, g5, g6⟩ := y
  dsimp only at *
  clear hC hx
  cases f3 <;> cases g2 <;> cases g3
  all_goals
    go_enter Tryd.func59, Tryd.ntmps59
    go_wp2_with (go_at_call 60; refine (H1.out _ hB).mono ?_; rintro e w1 ⟨rfl, hb1⟩
                 have hk := box_keep (w0 := w) hbox hb1
                 have hk1 := box_keep (w0 := w) hk0 hb1
                 have c3 := boxc hk 3 rfl
                 have e2 := boxc hk1 2 rfl
                 have e3 := boxc hk1 3 rfl
                 replace hB := hB.trans (hb1.mono (by simp)))
    all_goals
      go_ret
      refine ⟨ret_bool' ?_, hB⟩
      try rw [← hr.out]
      clear hr H1 hB hbox hG
      simp_all

def fldB (x : S83) : Bool := nameB x.f0 && (!(x.f0.toList == clinit.toList) && (rightT x.f1.f0 x.f1.f1 && !(x.f1.f0 == 1)))
theorem fld_calls (x : S83) (w : World) (hx : okF x) : Calls Tryd.prog 57 #[T83V x] w fun e w' => e = .returned (.bool (fldB x)) ∧ Below w.heap.size w w' := by
  have hbox : (w.alloc (.cells #[.string x.f0, .int .i64 x.f1.f0, .string x.f1.f1, .bool x.f2] 83)).heap[w.heap.size]? = some (.cells #[.string x.f0, .int .i64 x.f1.f0, .string x.f1.f1, .bool x.f2] 83 (0, 0)) := al_new' w _
  have hB : Below w.heap.size w (w.alloc (.cells #[.string x.f0, .int .i64 x.f1.f0, .string x.f1.f1, .bool x.f2] 83)) := (Below.refl _ _).alloc (Nat.le_refl _) _
  have H1 := hid (fun w' => Right_calls x.f1.f0 x.f1.f1 hx.2 w')
  have H4 := hid (fun w' => Name_calls x.f0 hx.1 w')
  change Hid (∀ w', Calls Tryd.prog 61 #[.string x.f0] w' fun e w'' => e = .returned (.bool (nameB x.f0)) ∧ w' = w'') at H4
  have hr : Hid ((nameB x.f0 && (!(x.f0.toList == clinit.toList) && (rightT x.f1.f0 x.f1.f1 && !(x.f1.f0 == 1)))) = fldB x) := hid rfl
  generalize fldB x = r at *
  generalize nameB x.f0 = q1 at *
  obtain ⟨f0, ⟨f1, f2⟩, f3⟩ := x
  dsimp only at *
  generalize rightT f1 f2 = q2 at *
  go_enter Tryd.func57, Tryd.ntmps57
  go_wp2_with (first
    | (go_at_call 61; refine (H4.out _).mono ?_; rintro e w2 ⟨rfl, rfl⟩)
    | (go_at_call 88; refine (H1.out _).mono ?_; rintro e w2 ⟨rfl, rfl⟩
       replace hB := hB.alloc hB.size (.cells #[.int .i64 f1, .string f2] 75)))
  all_goals
    go_ret
    refine ⟨ret_bool' ?_, hB⟩
    try rw [← hr.out]
    clear hr H1 H4 hB hbox hx
    simp_all [clinit_list]
  rfl

def entB (a b c : ByteArray) : Bool :=
  ((a.toList == ([] : List UInt8)) && ((b.toList == ([] : List UInt8)) && (c.toList == ([] : List UInt8)))) ||
    (ofB classB a && (nameB b && (!(b.toList == clinit.toList) && ((c.toList == [40, 41, 73]) || (c.toList == [40, 41, 86])))))
theorem ent_calls (a b c : ByteArray) (ha : a.size ≤ 9223372036854775807) (hb : b.size ≤ 9223372036854775807) (w : World) :
    Calls Tryd.prog 36 #[.agg #[.string a, .string b, .string c]] w fun e w' => e = .returned (.bool (entB a b c)) ∧ Below w.heap.size w w' := by
  have hB : Below w.heap.size w (w.alloc (.cells #[.string a, .string b, .string c] 25)) := (Below.refl _ _).alloc (Nat.le_refl _) _
  have H1 := hid (fun w' => Class_calls a ha w')
  have H4 := hid (fun w' => Name_calls b hb w')
  change Hid (∀ w', Calls Tryd.prog 61 #[.string b] w' fun e w'' => e = .returned (.bool (nameB b)) ∧ w' = w'') at H4
  have hr : Hid ((((a.toList == ([] : List UInt8)) && ((b.toList == ([] : List UInt8)) && (c.toList == ([] : List UInt8)))) ||
    (ofB classB a && (nameB b && (!(b.toList == clinit.toList) && ((c.toList == [40, 41, 73]) || (c.toList == [40, 41, 86])))))) = entB a b c) := hid rfl
  generalize entB a b c = r at *
  generalize nameB b = q1 at *
  generalize ofB classB a = q2 at *
  go_enter Tryd.func36, Tryd.ntmps36
  go_wp2_with (first
    | (go_at_call 61; refine (H4.out _).mono ?_; rintro e w2 ⟨rfl, rfl⟩)
    | (go_at_call 55; refine (H1.out _).mono ?_; rintro e w2 ⟨rfl, rfl⟩))
  all_goals
    go_ret
    refine ⟨ret_bool' ?_, hB⟩
    try rw [← hr.out]
    clear hr H1 H4 hB
    simp_all [clinit_list]

def clsB (y : S37) : Bool :=
  !(!ofB classB y.f0 || ((!(y.f1.toList == ([] : List UInt8)) && !ofB classB y.f1) || (y.f1.toList == y.f0.toList))) &&
    (!(y.f2 && (!y.f3 || (!(y.f1.toList == ([] : List UInt8)) || decide (0 < (y.f5.length : Int))))) &&
      (y.f4.all (ofB classB) && (y.f5.all fldB && y.f6.all (clsM y))))
set_option maxHeartbeats 4000000 in
set_option maxRecDepth 100000 in
theorem cls_calls (y : S37) (A4 : Option Addr) (c4 : Nat) (A5 : Option Addr) (c5 : Nat) (A6 : Option Addr) (c6 : Nat) (w : World) (hG : GW w) (hy : okC y)
    (h4 : Kd.C Kd.string w A4 y.f4.length y.f4) (h5 : Kd.C k83 w A5 y.f5.length y.f5) (h6 : Kd.C k40 w A6 y.f6.length y.f6) :
    Calls Tryd.prog 35 #[T37V y A4 c4 A5 c5 A6 c6] w fun e w' => e = .returned (.bool (clsB y)) ∧ Below w.heap.size w w' := by
  have hB : Below w.heap.size w (w.alloc (.cells (cCells y A4 c4 A5 c5 A6 c6) 37)) := (Below.refl _ _).alloc (Nat.le_refl _) _
  have hbox : (w.alloc (.cells (cCells y A4 c4 A5 c5 A6 c6) 37)).heap[w.heap.size]? = some (.cells (cCells y A4 c4 A5 c5 A6 c6) 37 (0, 0)) := al_new' w _
  have H0 := hid (fun w' => Class_calls y.f0 hy.1 w')
  have H1 := hid (fun w' => Class_calls y.f1 hy.2.1 w')
  have H4 := hid (fun w' (hb : Below w.heap.size w w') => each9_55 (ofB classB) y.f4 A4 c4 w' (Kd.C_below h4 hb) (fun w2 _ s hs => (Class_calls s (hy.2.2.1 s hs) w2).mono fun e w3 h => ⟨h.1, h.2 ▸ Below.refl _ _⟩))
  have H5 := hid (fun w' (hb : Below w.heap.size w w') => each83_57 fldB y.f5 A5 c5 w' (Kd.C_below h5 hb) (fun w2 _ f hf => fld_calls f w2 (hy.2.2.2.1 f hf)))
  have H6 := hid (fun w' (hb : Below w.heap.size w w') (hk : w'.heap[w.heap.size]? = some (.cells (cCells y A4 c4 A5 c5 A6 c6) 37 (0, 0))) => each40_59 (clsM y) ⟨w.heap.size, 0, none⟩ y.f6 A6 c6 w' (Kd.C_below h6 hb)
    (fun w2 hb2 x hx B5 d5 _ g5 => clsM_calls y A4 c4 A5 c5 A6 c6 w.heap.size x B5 d5 w2 ((hG.below hb).below hb2) (box_keep (w0 := w) hk hb2) (hy.2.2.2.2 x hx) g5))
  have hr : Hid ((!(!ofB classB y.f0 || ((!(y.f1.toList == ([] : List UInt8)) && !ofB classB y.f1) || (y.f1.toList == y.f0.toList))) &&
    (!(y.f2 && (!y.f3 || (!(y.f1.toList == ([] : List UInt8)) || decide (0 < (y.f5.length : Int))))) &&
      (y.f4.all (ofB classB) && (y.f5.all fldB && y.f6.all (clsM y))))) = clsB y) := hid rfl
  generalize clsB y = r at *
  generalize ofB classB y.f0 = q0 at *
  generalize ofB classB y.f1 = q1 at *
  generalize y.f4.all (ofB classB) = q4 at *
  generalize y.f5.all fldB = q5 at *
  generalize y.f6.all (clsM y) = q6 at *
  obtain ⟨g0, g1, g2, g3, g4, g5, g6⟩ := y
  dsimp only at *
  clear hy h4 h5 h6
  have hmf : ∀ (fn : Fn) (first cap : Array Value) (w : World), (Instr.makeFunc fn first cap).run Tryd.prog w = .ok (.func fn first cap) w := fun _ _ _ _ => rfl
  cases g2 <;> cases g3
  all_goals
    go_enter Tryd.func35, Tryd.ntmps35
    go_wp2_with (first
      | (go_at_call 55; refine (H0.out _).mono ?_; rintro e w2 ⟨rfl, rfl⟩)
      | (go_at_call 55; refine (H1.out _).mono ?_; rintro e w2 ⟨rfl, rfl⟩)
      | (go_at_call 50; refine (H4.out _ hB).mono ?_; rintro e w1 ⟨rfl, hb1⟩
         have hk := box_keep (w0 := w) hbox hb1
         have e5 := boxc hk 5 rfl
         have e6 := boxc hk 6 rfl
         replace hB := hB.trans (hb1.mono hB.size))
      | (go_at_call 56; refine (H5.out _ hB).mono ?_; rintro e w2 ⟨rfl, hb2⟩
         have hk2 := box_keep (w0 := w) hk hb2
         have e6 := boxc hk2 6 rfl
         replace hB := hB.trans (hb2.mono hB.size))
      | (go_at_call 58; refine (H6.out _ hB hk2).mono ?_; rintro e w3 ⟨rfl, hb3⟩
         replace hB := hB.trans (hb3.mono hB.size)))
    all_goals
      go_ret
      refine ⟨ret_bool' ?_, hB⟩
      try rw [← hr.out]
      clear hr H0 H1 H4 H5 H6 hB hbox hmf hG
      first
      | (simp_all; done)
      | (cases q0 <;> cases q1 <;> simp_all <;> omega)
      | (by_cases k5 : 0 < (g5.length : Int) <;> cases q0 <;> cases q1 <;> simp_all <;> omega)
end Go.Proofs.YtmamaijiphdggaaDoor.Given
