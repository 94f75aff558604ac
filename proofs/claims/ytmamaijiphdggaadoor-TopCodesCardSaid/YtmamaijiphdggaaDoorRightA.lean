/- norm.long and the functions that it hands to norm.each. -/
import Derived.Test.YtmamaijiphdggaaDoorEachT
namespace Go.Proofs.YtmamaijiphdggaaDoor.Given
set_option linter.unusedVariables false
set_option linter.unusedSimpArgs false
open Go.RowKit Go.Lib
open Go.Proofs.YtmamaijiphdggaaDoorW.PrintWords

def longS (s : ByteArray) : Bool := decide ((s.size : Int) ≤ 64)
theorem longS_calls (s : ByteArray) (w : World) : Calls Tryd.prog 51 #[.string s] w fun e w' => e = .returned (.bool (longS s)) ∧ w = w' := by
  go_enter Tryd.func51, Tryd.ntmps51
  go_wp2
  go_ret
  exact ⟨rfl, rfl⟩

def longC (x : S37) : Bool := decide ((x.f4.length : Int) ≤ 8) && (decide ((x.f5.length : Int) ≤ 32) && decide ((x.f6.length : Int) ≤ 32))
theorem longC_calls (x : S37) (A4 : Option Addr) (c4 : Nat) (A5 : Option Addr) (c5 : Nat) (A6 : Option Addr) (c6 : Nat) (w : World) :
    Calls Tryd.prog 52 #[T37V x A4 c4 A5 c5 A6 c6] w fun e w' => e = .returned (.bool (longC x)) ∧ Below w.heap.size w w' := by
  have hB : Below w.heap.size w (w.alloc (.cells #[.string x.f0, .string x.f1, .bool x.f2, .bool x.f3, .slice A4 x.f4.length c4, .slice A5 x.f5.length c5, .slice A6 x.f6.length c6] 37)) := (Below.refl _ _).alloc (Nat.le_refl _) _
  go_enter Tryd.func52, Tryd.ntmps52
  go_wp2
  all_goals
    go_ret
    refine ⟨ret_bool' ?_, hB⟩
    simp [longC, *]
    try omega

/-- A box and what it holds. -/
theorem boxc {w : World} {b : Nat} {vs : Array Value} {t : TypeId} {p : Nat × Nat} (h : w.heap[b]? = some (.cells vs t p)) (i : Nat) {v : Value} (hv : vs[i]? = some v) : w.cell? ⟨b, i, none⟩ = some v := by
  simp [World.cell?, h, hv]
theorem box_keep {w0 w w' : World} {b : Nat} {o : Obj} (h : w.heap[b]? = some o) (hb : Below w.heap.size w w') : w'.heap[b]? = some o :=
  (hb.block b (Array.getElem?_eq_some_iff.1 h).1).trans h

abbrev T27V (n : Nat) (A : Option Addr) (c : Nat) (m : Nat) (B : Option Addr) (d : Nat) (e1 e2 e3 : ByteArray) : Value := .agg #[.slice A n c, .slice B m d, .string e1, .string e2, .string e3]
def longP (cs : List S37) (ns : List ByteArray) : Bool := decide (64 < cs.length) || (decide (64 < ns.length) || (!ns.all longS || !cs.all longC))
theorem longP_calls (cs : List S37) (A : Option Addr) (c : Nat) (ns : List ByteArray) (B : Option Addr) (d : Nat) (e1 e2 e3 : ByteArray) (w : World)
    (hC : Kd.C k37 w A cs.length cs) (hN : Kd.C Kd.string w B ns.length ns) :
    Calls Tryd.prog 33 #[T27V cs.length A c ns.length B d e1 e2 e3] w fun e w' => e = .returned (.bool (longP cs ns)) ∧ Below w.heap.size w w' := by
  have hB : Below w.heap.size w (w.alloc (.cells #[.slice A cs.length c, .slice B ns.length d, .string e1, .string e2, .string e3] 27)) := (Below.refl _ _).alloc (Nat.le_refl _) _
  have hbox : (w.alloc (.cells #[.slice A cs.length c, .slice B ns.length d, .string e1, .string e2, .string e3] 27)).heap[w.heap.size]? = some (.cells #[.slice A cs.length c, .slice B ns.length d, .string e1, .string e2, .string e3] 27 (0, 0)) := al_new' w _
  have H1 := hid (fun w' (hb : Below w.heap.size w w') => each9_51 longS ns B d w' (Kd.C_below hN hb) (fun w2 _ x _ => (longS_calls x w2).mono fun e w3 h => ⟨h.1, h.2 ▸ Below.refl _ _⟩))
  have H2 := hid (fun w' (hb : Below w.heap.size w w') => each37_52 longC cs A c w' (Kd.C_below hC hb) (fun w2 _ x _ A4 c4 A5 c5 A6 c6 _ _ _ _ _ _ => longC_calls x A4 c4 A5 c5 A6 c6 w2))
  have hr : longP cs ns = (decide (64 < cs.length) || (decide (64 < ns.length) || (!ns.all longS || !cs.all longC))) := rfl
  generalize longP cs ns = r at hr ⊢
  generalize ns.all longS = q1 at *
  generalize cs.all longC = q2 at *
  go_enter Tryd.func33, Tryd.ntmps33
  go_wp2_with (first
    | (go_at_call 50; refine (H1.out _ hB).mono ?_; rintro e w1 ⟨rfl, hb1⟩
       have hk := box_keep (w0 := w) hbox hb1
       have hc := boxc hk 0 rfl
       replace hB := hB.trans (hb1.mono (by simp)))
    | (go_at_call 34; refine (H2.out _ hB).mono ?_; rintro e w2 ⟨rfl, hb2⟩
       replace hB := hB.trans (hb2.mono hB.size)))
  all_goals
    go_ret
    refine ⟨ret_bool' ?_, hB⟩
    clear H1 H2 hB hbox hC hN
    try rw [hr]
    by_cases k1 : 64 < cs.length <;> by_cases k2 : 64 < ns.length <;> simp [*] <;> omega
end Go.Proofs.YtmamaijiphdggaaDoor.Given
