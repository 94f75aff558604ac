/- norm.byMethod. -/
import Derived.Test.YtmamaijiphdggaaDoorOrd
import Derived.StillTailTactics
namespace Go.Proofs.YtmamaijiphdggaaDoor.Given
set_option linter.unusedVariables false
set_option linter.unusedSimpArgs false
open Go.RowKit Go.Lib
open Go.Proofs.YtmamaijiphdggaaDoorW.PrintWords
def orI (a b : Int) : Int := if a = 0 then b else a
set_option maxRecDepth 100000 in
theorem or_calls (a b : Int) (n : Nat) (w : World) (h : w.heap[n]? = some (.cells #[.int .i64 a, .int .i64 b] 3 (0, 0))) :
    Calls Tryd.prog 95 #[.slice (some ⟨n, 0, none⟩) 2 2] w fun e w' => e = .returned (.int .i64 (orI a b)) ∧ w = w' := by
  have c0 := boxc h 0 rfl
  have c1 := boxc h 1 rfl
  clear h
  have HO := hid (show orI a b = if a = 0 then b else a from rfl)
  generalize orI a b = r at *
  go_enter Tryd.func95, Tryd.ntmps95
  go_wp2
  go_loopg [8] 2 (fun gk v wr => (v = .int .i64 0 ∧ gk = 2 ∧ w = wr) ∨ (v = .int .i64 1 ∧ gk = 1 ∧ Hid (a = 0) ∧ w = wr) ∨ (v = .int .i64 2 ∧ gk = 0 ∧ Hid (a = 0) ∧ Hid (b = 0) ∧ w = wr))
  case atStart => exact .inl ⟨rfl, rfl, rfl⟩
  case round =>
    rcases hrel with ⟨rfl, rfl, rfl⟩ | ⟨rfl, rfl, ha, rfl⟩ | ⟨rfl, rfl, ha, hb, rfl⟩
    · by_cases ha : a = 0
      · have hA := hid ha
        go_wp2
        go_roundg 1
        case rel => exact .inr (.inl ⟨rfl, rfl, hA, rfl⟩)
        case measure => omega
      · have hR : Hid (a = r) := hid (by rw [HO.out, if_neg ha])
        go_wp2
        go_ret
        exact ⟨ret_int' hR.out, rfl⟩
    · have hR : Hid (b = r) := hid (by rw [HO.out, if_pos ha.out])
      by_cases hb : b = 0
      · have hBz := hid hb
        go_wp2
        go_roundg 0
        case rel => exact .inr (.inr ⟨rfl, rfl, ha, hBz, rfl⟩)
        case measure => omega
      · go_wp2
        go_ret
        exact ⟨ret_int' hR.out, rfl⟩
    · have hR : Hid (0 = r) := hid (by rw [HO.out, if_pos ha.out, hb.out])
      go_wp2
      go_ret
      exact ⟨ret_int' hR.out, rfl⟩
set_option maxRecDepth 100000 in
theorem byMethod_calls {f : ByteArray → ByteArray → Int} (hf : Cmp f) (x y : S40) (A5 : Option Addr) (c5 : Nat) (B5 : Option Addr) (d5 : Nat) (w : World) :
    Calls Tryd.prog 70 #[T40V x A5 c5, T40V y B5 d5] w fun e w' => e = .returned (.int .i64 (orI (f x.f0 y.f0) (f x.f1 y.f1))) ∧ Below w.heap.size w w' := by
  have HF := hid hf
  have hB : Below w.heap.size w ((w.alloc (.cells #[.string x.f0, .string x.f1, .bool x.f2, .bool x.f3, .int .i64 x.f4, .slice A5 x.f5.length c5] 40)).alloc (.cells #[.string y.f0, .string y.f1, .bool y.f2, .bool y.f3, .int .i64 y.f4, .slice B5 y.f5.length d5] 40)) := ((Below.refl _ _).alloc (Nat.le_refl _) _).alloc (by simp) _
  have hx := box_keep (w0 := w) (al_new' w (.cells #[.string x.f0, .string x.f1, .bool x.f2, .bool x.f3, .int .i64 x.f4, .slice A5 x.f5.length c5] 40)) ((Below.refl _ _).alloc (Nat.le_refl _) (.cells #[.string y.f0, .string y.f1, .bool y.f2, .bool y.f3, .int .i64 y.f4, .slice B5 y.f5.length d5] 40))
  have hy := al_new' (w.alloc (.cells #[.string x.f0, .string x.f1, .bool x.f2, .bool x.f3, .int .i64 x.f4, .slice A5 x.f5.length c5] 40)) (.cells #[.string y.f0, .string y.f1, .bool y.f2, .bool y.f3, .int .i64 y.f4, .slice B5 y.f5.length d5] 40)
  have hs : (w.alloc (.cells #[.string x.f0, .string x.f1, .bool x.f2, .bool x.f3, .int .i64 x.f4, .slice A5 x.f5.length c5] 40)).heap.size = w.heap.size + 1 := al_size _ _
  rw [hs] at hy
  clear hs
  have b0 := boxc hx 0 rfl
  have b1 := boxc hx 1 rfl
  have d0 := boxc hy 0 rfl
  have d1 := boxc hy 1 rfl
  go_enter Tryd.func70, Tryd.ntmps70
  go_wp2
  generalize ((w.alloc (.cells #[.string x.f0, .string x.f1, .bool x.f2, .bool x.f3, .int .i64 x.f4, .slice A5 x.f5.length c5] 40)).alloc (.cells #[.string y.f0, .string y.f1, .bool y.f2, .bool y.f3, .int .i64 y.f4, .slice B5 y.f5.length d5] 40)) = w2 at *
  refine wp_region_still_tail 10 (by kernel_rfl) (by kernel_rfl) ?_
  simp only [List.take_succ_cons, List.take_zero, List.drop_succ_cons, List.drop_zero]
  repeat (first | still_step | still_call (HF.out _ _ _))
  try refine wpStill_nil ?_
  change wpList _ _ _ _ _ w2.drew
  have hB2 : Below w.heap.size w w2.drew := below_dn hB 1
  clear hx hy b0 b1 d0 d1 hB
  generalize w2.drew = w3 at *
  go_wp2_with (go_at_call 95; refine (or_calls _ _ _ _ (al_new' _ _)).mono ?_; rintro e w4 ⟨rfl, rfl⟩)
  go_ret
  exact ⟨rfl, hB2.alloc hB2.size _⟩
end Go.Proofs.YtmamaijiphdggaaDoor.Given
