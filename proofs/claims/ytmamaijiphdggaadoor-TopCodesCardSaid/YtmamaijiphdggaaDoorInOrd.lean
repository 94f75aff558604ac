/- norm.InOrder. -/
import Derived.Test.YtmamaijiphdggaaDoorOrdM
import Derived.Test.YtmamaijiphdggaaDoorRiseB
namespace Go.Proofs.YtmamaijiphdggaaDoor.Given
set_option linter.unusedVariables false
set_option linter.unusedSimpArgs false
open Go.RowKit Go.Lib
open Go.Proofs.YtmamaijiphdggaaDoorW.PrintWords
def ordC (f : ByteArray → ByteArray → Int) (y : S37) : Bool :=
  risesB f y.f4 && (risesB (fun a b : S83 => f a.f0 b.f0) y.f5 && risesB (fun a b : S40 => orI (f a.f0 b.f0) (f a.f1 b.f1)) y.f6)
theorem ordC_calls {f : ByteArray → ByteArray → Int} (hf : Cmp f) (y : S37) (A4 : Option Addr) (c4 : Nat) (A5 : Option Addr) (c5 : Nat) (A6 : Option Addr) (c6 : Nat) (w : World)
    (h4 : Kd.C Kd.string w A4 y.f4.length y.f4) (h5 : Kd.C k83 w A5 y.f5.length y.f5) (h6 : Kd.C k40 w A6 y.f6.length y.f6) :
    Calls Tryd.prog 64 #[T37V y A4 c4 A5 c5 A6 c6] w fun e w' => e = .returned (.bool (ordC f y)) ∧ Below w.heap.size w w' := by
  have hB : Below w.heap.size w (w.alloc (.cells (cCells y A4 c4 A5 c5 A6 c6) 37)) := (Below.refl _ _).alloc (Nat.le_refl _) _
  have hbox : (w.alloc (.cells (cCells y A4 c4 A5 c5 A6 c6) 37)).heap[w.heap.size]? = some (.cells (cCells y A4 c4 A5 c5 A6 c6) 37 (0, 0)) := al_new' w _
  have H4 := hid (fun w' (hb : Below w.heap.size w w') => rise65_66 f y.f4 A4 c4 w' (Kd.C_below h4 hb) hf)
  have H5 := hid (fun w' (hb : Below w.heap.size w w') => rise67_68 (fun a b : S83 => f a.f0 b.f0) y.f5 A5 c5 w' (Kd.C_below h5 hb) (fun a b w2 => byField_calls hf a b w2))
  have H6 := hid (fun w' (hb : Below w.heap.size w w') => rise69_70 (fun a b : S40 => orI (f a.f0 b.f0) (f a.f1 b.f1)) y.f6 A6 c6 w' (Kd.C_below h6 hb) (fun a b A c A' c' w2 => byMethod_calls hf a b A c A' c' w2))
  have hr : Hid ((risesB f y.f4 && (risesB (fun a b : S83 => f a.f0 b.f0) y.f5 && risesB (fun a b : S40 => orI (f a.f0 b.f0) (f a.f1 b.f1)) y.f6)) = ordC f y) := hid rfl
  generalize ordC f y = r at *
  generalize risesB f y.f4 = q4 at *
  generalize risesB (fun a b : S83 => f a.f0 b.f0) y.f5 = q5 at *
  generalize risesB (fun a b : S40 => orI (f a.f0 b.f0) (f a.f1 b.f1)) y.f6 = q6 at *
  obtain ⟨g0, g1, g2, g3, g4, g5, g6⟩ := y
  dsimp only at *
  clear h4 h5 h6
  go_enter Tryd.func64, Tryd.ntmps64
  go_wp2_with (first
    | (go_at_call 65; refine (H4.out _ hB).mono ?_; rintro e w1 ⟨rfl, hb1⟩
       have hk := box_keep (w0 := w) hbox hb1
       have e5 := boxc hk 5 rfl
       have e6 := boxc hk 6 rfl
       replace hB := hB.trans (hb1.mono hB.size))
    | (go_at_call 67; refine (H5.out _ hB).mono ?_; rintro e w2 ⟨rfl, hb2⟩
       have hk2 := box_keep (w0 := w) hk hb2
       have e6 := boxc hk2 6 rfl
       replace hB := hB.trans (hb2.mono hB.size))
    | (go_at_call 69; refine (H6.out _ hB).mono ?_; rintro e w3 ⟨rfl, hb3⟩
       replace hB := hB.trans (hb3.mono hB.size)))
  all_goals
    go_ret
    refine ⟨ret_bool' ?_, hB⟩
    try rw [← hr.out]
    clear hr H4 H5 H6 hB hbox
    simp_all

def ordP (f : ByteArray → ByteArray → Int) (cs : List S37) : Bool := risesB (fun a b : S37 => f a.f0 b.f0) cs && cs.all (ordC f)
theorem ordP_calls {f : ByteArray → ByteArray → Int} (hf : Cmp f) (cs : List S37) (A : Option Addr) (c : Nat) (ns : List ByteArray) (B : Option Addr) (d : Nat) (e1 e2 e3 : ByteArray) (w : World) (hC : Kd.C k37 w A cs.length cs) :
    Calls Tryd.prog 37 #[T27V cs.length A c ns.length B d e1 e2 e3] w fun e w' => e = .returned (.bool (ordP f cs)) ∧ Below w.heap.size w w' := by
  have hB : Below w.heap.size w (w.alloc (.cells #[.slice A cs.length c, .slice B ns.length d, .string e1, .string e2, .string e3] 27)) := (Below.refl _ _).alloc (Nat.le_refl _) _
  have hbox : (w.alloc (.cells #[.slice A cs.length c, .slice B ns.length d, .string e1, .string e2, .string e3] 27)).heap[w.heap.size]? = some (.cells #[.slice A cs.length c, .slice B ns.length d, .string e1, .string e2, .string e3] 27 (0, 0)) := al_new' w _
  have H1 := hid (fun w' (hb : Below w.heap.size w w') => rise62_63 (fun a b : S37 => f a.f0 b.f0) cs A c w' (Kd.C_below hC hb) (fun x y A4 c4 A5 c5 A6 c6 B4 d4 B5 d5 B6 d6 w2 => byClass_calls hf x y A4 c4 A5 c5 A6 c6 B4 d4 B5 d5 B6 d6 w2))
  have H2 := hid (fun w' (hb : Below w.heap.size w w') => each37_64 (ordC f) cs A c w' (Kd.C_below hC hb) (fun w2 _ x _ A4 c4 A5 c5 A6 c6 _ g4 _ g5 _ g6 => ordC_calls hf x A4 c4 A5 c5 A6 c6 w2 g4 g5 g6))
  have hr : Hid ((risesB (fun a b : S37 => f a.f0 b.f0) cs && cs.all (ordC f)) = ordP f cs) := hid rfl
  generalize ordP f cs = r at *
  generalize risesB (fun a b : S37 => f a.f0 b.f0) cs = q1 at *
  generalize cs.all (ordC f) = q2 at *
  clear hC
  go_enter Tryd.func37, Tryd.ntmps37
  go_wp2_with (first
    | (go_at_call 62; refine (H1.out _ hB).mono ?_; rintro e w1 ⟨rfl, hb1⟩
       have hk := box_keep (w0 := w) hbox hb1
       have hc := boxc hk 0 rfl
       replace hB := hB.trans (hb1.mono hB.size))
    | (go_at_call 34; refine (H2.out _ hB).mono ?_; rintro e w2 ⟨rfl, hb2⟩
       replace hB := hB.trans (hb2.mono hB.size)))
  all_goals
    go_ret
    refine ⟨ret_bool' ?_, hB⟩
    try rw [← hr.out]
    clear hr H1 H2 hB hbox
    simp_all
end Go.Proofs.YtmamaijiphdggaaDoor.Given
