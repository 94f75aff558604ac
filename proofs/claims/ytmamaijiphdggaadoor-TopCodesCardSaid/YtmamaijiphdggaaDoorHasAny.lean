/- The inner function op.hasAny: whether one of some runes stands in a text. -/
import Derived.Test.YtmamaijiphdggaaDoorProg
import Derived.WalkKit
import Derived.Below
import Derived.Deep.LoopGhost
import Derived.Lib.OthersKept
import Derived.Lib.Hide
import Derived.Outline
namespace Go.Proofs.YtmamaijiphdggaaDoor.Given
open Go.RowKit Go.Lib

/-- The runes of a text, from a place on. -/
def runesOf (s : ByteArray) : Nat → Nat → List Int
  | 0, _ => []
  | b + 1, pos => if pos < s.size then ((Utf8.decode s pos).1 : Int) :: runesOf s b (pos + (Utf8.decode s pos).2) else []
def isIn (t : ByteArray) (b pos : Nat) (c : Int) : Bool := (runesOf t b pos).any fun d => c == d
def someIn (s t : ByteArray) (b pos : Nat) : Bool := (runesOf s b pos).any fun c => isIn t t.size 0 c
def hasAnyB (s t : ByteArray) : Bool := someIn s t s.size 0

theorem rune_width (s : ByteArray) (pos : Nat) (h : pos < s.size) : 1 ≤ (Utf8.decode s pos).2 := by
  by_cases ha : (s[pos]'h).toNat < 128
  · rw [decode_ascii s pos h ha]
    exact Nat.le_refl _
  · exact (decode_high s pos h (by omega)).2
theorem runesOf_end (s : ByteArray) (b pos : Nat) (h : ¬ pos < s.size) : runesOf s b pos = [] := by
  cases b with
  | zero => rfl
  | succ b => simp [runesOf, h]
theorem isIn_end (t : ByteArray) (b pos : Nat) (c : Int) (h : ¬ pos < t.size) : isIn t b pos c = false := by simp [isIn, runesOf_end t b pos h]
theorem isIn_step (t : ByteArray) (b pos : Nat) (c : Int) (h : pos < t.size) : isIn t (b + 1) pos c = (c == ((Utf8.decode t pos).1 : Int) || isIn t b (pos + (Utf8.decode t pos).2) c) := by simp [isIn, runesOf, h]
theorem someIn_end (s t : ByteArray) (b pos : Nat) (h : ¬ pos < s.size) : someIn s t b pos = false := by simp [someIn, runesOf_end s b pos h]
theorem someIn_step (s t : ByteArray) (b pos : Nat) (h : pos < s.size) : someIn s t (b + 1) pos = (isIn t t.size 0 ((Utf8.decode s pos).1 : Int) || someIn s t b (pos + (Utf8.decode s pos).2)) := by simp [someIn, runesOf, h]

theorem below_iter {w wr : World} (h : Below w.heap.size w wr) (o : Obj) : Below w.heap.size w (wr.alloc o) := h.alloc h.size o
theorem heap_alloc_old {wr : World} {k : Nat} {x : Obj} (h : wr.heap[k]? = some x) (o : Obj) : (wr.alloc o).heap[k]? = some x := by
  have hlt : k < wr.heap.size := (Array.getElem?_eq_some_iff.1 h).1
  exact (alloc_old wr o k hlt).trans h
theorem heap_alloc_new (wr : World) (o : Obj) : (wr.alloc o).heap[wr.heap.size]? = some o := by
  show (wr.heap.push o)[wr.heap.size]? = _
  simp

set_option maxRecDepth 100000 in
set_option maxHeartbeats 4000000 in
theorem hasAny_calls (s t : ByteArray) (w : World) :
    Calls Tryd.prog 73 #[.string s, .string t] w fun e w' => e = .returned (.bool (hasAnyB s t)) ∧ Below w.heap.size w w' := by
  go_enter Tryd.func73, Tryd.ntmps73
  go_wp2
  go_loopg [] s.size (fun gk wr => ∃ pos, wr.heap[w.heap.size]? = some (.stringIter s pos) ∧ Below w.heap.size w wr ∧ Hid (someIn s t gk pos = hasAnyB s t) ∧ s.size ≤ pos + gk)
  case atStart => exact ⟨0, World.iter_heap _ _ _, below_iter (Below.refl _ _) _, Lib.hid rfl, by omega⟩
  case round =>
    obtain ⟨pos, hit, hb, hr, hs⟩ := hrel
    by_cases hp : pos < s.size
    · have hnx := fun ty => run_next_any_at (P := Tryd.prog) wr w.heap.size s pos ty hit hp
      have hwd := rune_width s pos hp
      have hit2 := iterAt_heap wr w.heap.size s pos (pos + (Utf8.decode s pos).2) hit
      have hb2 := below_iterAt hb (Nat.le_refl _) s (pos + (Utf8.decode s pos).2)
      obtain ⟨W, hW⟩ : ∃ W, W = wr.iterAt w.heap.size s (pos + (Utf8.decode s pos).2) := ⟨_, rfl⟩
      have hgk : gk ≠ 0 := by omega
      obtain ⟨g, rfl⟩ : ∃ g, gk = g + 1 := ⟨gk - 1, by omega⟩
      rw [someIn_step s t g pos hp] at hr
      rw [← hW] at hit2 hb2 hnx
      clear hW
      go_wp2
      go_loopg [] t.size (fun gi wi => ∃ q, wi.heap[W.heap.size]? = some (.stringIter t q) ∧ wi.heap[w.heap.size]? = some (.stringIter s (pos + (Utf8.decode s pos).2)) ∧ Below w.heap.size w wi ∧ Hid (isIn t gi q ((Utf8.decode s pos).1 : Int) = isIn t t.size 0 ((Utf8.decode s pos).1 : Int)) ∧ t.size ≤ q + gi)
      case atStart => exact ⟨0, World.iter_heap _ _ _, heap_alloc_old hit2 _, below_iter hb2 _, Lib.hid rfl, by omega⟩
      case round =>
        obtain ⟨q, hit3, hit4, hb3, hr3, hs3⟩ := hrel
        have hlt : w.heap.size < W.heap.size := (Array.getElem?_eq_some_iff.1 hit2).1
        by_cases hq : q < t.size
        · have hny := fun ty => run_next_any_at (P := Tryd.prog) wr W.heap.size t q ty hit3 hq
          have hwd3 := rune_width t q hq
          have hit5 := iterAt_heap wr W.heap.size t q (q + (Utf8.decode t q).2) hit3
          have hb5 := below_iterAt hb3 (Nat.le_of_lt hlt) t (q + (Utf8.decode t q).2)
          have hit6 := iterAt_other wr W.heap.size w.heap.size t (q + (Utf8.decode t q).2) (Nat.ne_of_lt hlt)
          rw [hit4] at hit6
          obtain ⟨g2, rfl⟩ : ∃ g, gk = g + 1 := ⟨gk - 1, by omega⟩
          rw [isIn_step t g2 q _ hq] at hr3
          cases hcd : (((Utf8.decode s pos).1 : Int) == ((Utf8.decode t q).1 : Int))
          · have hr4 : Hid (isIn t g2 (q + (Utf8.decode t q).2) ((Utf8.decode s pos).1 : Int) = isIn t t.size 0 ((Utf8.decode s pos).1 : Int)) := by
              have := hr3.out
              rw [hcd, Bool.false_or] at this
              exact Lib.hid this
            clear hr3
            go_wp2
            go_roundg g2
            case rel => exact ⟨_, hit5, hit6, hb5, hr4, by omega⟩
            case measure => omega
          · have hr4 : Hid (hasAnyB s t = true) := by
              have h1 := hr.out
              have h3 := hr3.out
              rw [hcd, Bool.true_or] at h3
              rw [← h3, Bool.true_or] at h1
              exact Lib.hid h1.symm
            clear hr3
            go_wp2
            go_ret
            exact ⟨by rw [hr4.out]; rfl, hb5⟩
        · have hny := fun ty => run_next_end_at (P := Tryd.prog) wr W.heap.size t q ty hit3 hq
          have hr4 : Hid (someIn s t g (pos + (Utf8.decode s pos).2) = hasAnyB s t) := by
            have h1 := hr.out
            have h3 := hr3.out
            rw [isIn_end t gk q _ hq] at h3
            rw [← h3, Bool.false_or] at h1
            exact Lib.hid h1
          go_wp2
          go_roundg g
          case rel => exact ⟨_, hit4, hb3, hr4, by omega⟩
          case measure => omega
    · have hnx := fun ty => run_next_end_at (P := Tryd.prog) wr w.heap.size s pos ty hit hp
      go_wp2
      go_ret
      have := hr.out
      rw [someIn_end s t gk pos hp] at this
      exact ⟨by rw [← this]; rfl, hb⟩
end Go.Proofs.YtmamaijiphdggaaDoor.Given
