/- slices.IndexFunc and slices.ContainsFunc over classes, and norm.each. -/
import Derived.Test.YtmamaijiphdggaaDoorKinds
import Derived.Lib.Hide
import Derived.Outline
import Derived.Deep.LoopGhost
namespace Go.Proofs.YtmamaijiphdggaaDoor.Given
set_option linter.unusedVariables false
set_option linter.unusedSimpArgs false
open Go.RowKit Go.Lib
open Go.Proofs.YtmamaijiphdggaaDoorW.PrintWords

theorem ret_int' {k : IntKind} {a b : Int} (h : a = b) : Ending.returned (.int k a) = .returned (.int k b) := by rw [h]
theorem ret_bool' {a b : Bool} (h : a = b) : Ending.returned (.bool a) = .returned (.bool b) := by rw [h]
theorem al_new' (w : World) (o : Obj) : (w.alloc o).heap[w.heap.size]? = some o := by
  show (w.heap.push o)[w.heap.size]? = _
  simp
/-- Where the first member lies of which something holds; -1: there is none. -/
def idxQ {α : Type} (q : α → Bool) (l : List α) : Int := match l.findIdx? q with | some n => (n : Int) | none => -1
def NoneUpTo {α : Type} (q : α → Bool) (l : List α) (i : Nat) : Prop := ∀ j (h : j < l.length), j < i → q l[j] = false
theorem idxQ_hit {α : Type} {q : α → Bool} {l : List α} {i : Nat} (h : i < l.length) (hn : NoneUpTo q l i) (hq : q l[i] = true) : idxQ q l = i := by
  have : l.findIdx? q = some i := by
    rw [List.findIdx?_eq_some_iff_getElem]
    exact ⟨h, hq, fun j hj => by rw [hn j (by omega) hj]; simp⟩
  unfold idxQ
  rw [this]
theorem idxQ_none {α : Type} {q : α → Bool} {l : List α} {i : Nat} (h : l.length ≤ i) (hn : NoneUpTo q l i) : idxQ q l = -1 := by
  have : l.findIdx? q = none := by
    rw [List.findIdx?_eq_none_iff]
    intro x hx
    obtain ⟨j, hj, rfl⟩ := List.getElem_of_mem hx
    exact hn j hj (by omega)
  unfold idxQ
  rw [this]
theorem NoneUpTo.next {α : Type} {q : α → Bool} {l : List α} {i : Nat} (h : i < l.length) (hn : NoneUpTo q l i) (hq : q l[i] = false) : NoneUpTo q l (i + 1) := fun j hj hji => by
  by_cases e : j = i
  · subst e; exact hq
  · exact hn j hj (by omega)

def rd_T9 (xs : List ByteArray) (i : Int) : ByteArray := xs.getD i.toNat ⟨#[]⟩
theorem at_T9 {w : World} {A : Option Addr} {n : Nat} {xs : List ByteArray} (h : Kd.C Kd.string w A n xs) (i : Int) (h0 : 0 ≤ i) (h1 : i < n) : ∃ ad, A = some ad ∧ w.cell? (ad.add (i.toNat * 1)) = some (.string (rd_T9 xs i)) := by
  obtain ⟨ad, c, e, _, hK, hc0⟩ := Kd.C_get h ⟨#[]⟩ i h0 h1
  have hK' : c = [.string (xs.getD i.toNat ⟨#[]⟩)] := hK
  have := hc0 0 (.string (xs.getD i.toNat ⟨#[]⟩)) (by rw [hK']; rfl)
  have e1 : Kd.string.sz = 1 := rfl
  rw [e1] at this
  exact ⟨ad, e, by simpa [rd_T9, List.getD] using this⟩
theorem idxQ_any {α : Type} (q : α → Bool) (l : List α) : decide (idxQ q l ≥ 0) = l.any q := by
  unfold idxQ
  cases h : l.findIdx? q with
  | none =>
    have h2 : l.any q = false := by
      rw [List.any_eq_false]
      intro x hx
      have := List.findIdx?_eq_none_iff.1 h x hx
      simp [this]
    rw [h2]; rfl
  | some n =>
    have h2 : l.any q = true := by
      obtain ⟨hn, hq, _⟩ := List.findIdx?_eq_some_iff_getElem.1 h
      exact List.any_eq_true.2 ⟨_, List.getElem_mem hn, hq⟩
    rw [h2]
    show decide ((n : Int) ≥ 0) = true
    exact decide_eq_true (by omega)
abbrev T37V (x : S37) (A4 : Option Addr) (c4 : Nat) (A5 : Option Addr) (c5 : Nat) (A6 : Option Addr) (c6 : Nat) : Value := .agg #[.string x.f0, .string x.f1, .bool x.f2, .bool x.f3, .slice A4 x.f4.length c4, .slice A5 x.f5.length c5, .slice A6 x.f6.length c6]
set_option maxRecDepth 100000 in
theorem index37 (q : S37 → Bool) (p : Addr) (l : List S37) (A : Option Addr) (c : Nat) (w : World) (hC : Kd.C k37 w A l.length l)
    (ht : ∀ w', Below w.heap.size w w' → ∀ x ∈ l, ∀ A4 c4 A5 c5 A6 c6,x.f4.length ≤ c4 → Kd.string.C w' A4 x.f4.length x.f4 → x.f5.length ≤ c5 → k83.C w' A5 x.f5.length x.f5 → x.f6.length ≤ c6 → k40.C w' A6 x.f6.length x.f6 → Calls Tryd.prog 54 #[T37V x A4 c4 A5 c5 A6 c6, .pointer (some p)] w' fun e w'' => e = .returned (.bool (q x)) ∧ Below w'.heap.size w' w'') :
    Calls Tryd.prog 82 #[.slice A l.length c, .func (.func 54) #[] #[.pointer (some p)]] w fun e w' => e = .returned (.int .i64 (idxQ q l)) ∧ Below w.heap.size w w' := by
  have hm : l.length ≤ 9223372036854775807 := hC.2.1
  have HC := hid hC
  have HT := hid ht
  clear hC ht
  go_enter Tryd.func82, Tryd.ntmps82
  go_wp2
  go_loopg [8] l.length (fun gk v wr => ∃ i : Nat, i ≤ l.length ∧ v = .int .i64 i ∧ gk = l.length - i ∧ Hid (NoneUpTo q l i) ∧ Hid (Below w.heap.size w wr))
  case atStart => exact ⟨0, Nat.zero_le _, rfl, by omega, hid (fun j _ h => by omega), hid (Below.refl _ _)⟩
  case round =>
    obtain ⟨i, hi, rfl, rfl, HN, HB⟩ := hrel
    by_cases hlt : i < l.length
    · obtain ⟨ad, A4, c4, A5, c5, A6, c6, e, x0, x1, x2, x3, x4, x5, x6, l4, g4, l5, g5, l6, g6⟩ := at_T37 HC.out (i : Int) (by omega) (by omega)
      subst e
      have er : rd_T37 l (i : Int) = l[i] := by simp [rd_T37, List.getD, List.getElem?_eq_getElem hlt]
      rw [er] at x0 x1 x2 x3 x4 x5 x6 l4 g4 l5 g5 l6 g6
      rw [Int.toNat_natCast] at x0 x1 x2 x3 x4 x5 x6
      replace x0 := (HB.out.cell (World.block_lt_of_cell? w _ x0)).trans x0
      replace x1 := (HB.out.cell (World.block_lt_of_cell? w _ x1)).trans x1
      replace x2 := (HB.out.cell (World.block_lt_of_cell? w _ x2)).trans x2
      replace x3 := (HB.out.cell (World.block_lt_of_cell? w _ x3)).trans x3
      replace x4 := (HB.out.cell (World.block_lt_of_cell? w _ x4)).trans x4
      replace x5 := (HB.out.cell (World.block_lt_of_cell? w _ x5)).trans x5
      replace x6 := (HB.out.cell (World.block_lt_of_cell? w _ x6)).trans x6
      have HX := hid (HT.out wr HB.out l[i] (List.getElem_mem hlt) A4 c4 A5 c5 A6 c6 l4 (Kd.C_below g4 HB.out) l5 (Kd.C_below g5 HB.out) l6 (Kd.C_below g6 HB.out))
      clear er l4 g4 l5 g5 l6 g6
      cases hq : q l[i] with
      | true =>
        rw [hq] at HX
        have HR := hid (idxQ_hit hlt HN.out hq)
        clear hq
        go_wp2_with (go_at_call 54; refine HX.out.mono ?_; rintro e w' ⟨rfl, hb⟩)
        go_ret
        exact ⟨ret_int' HR.out.symm, HB.out.trans (hb.mono HB.out.size)⟩
      | false =>
        rw [hq] at HX
        have HR := hid (HN.out.next hlt hq)
        clear hq
        go_wp2_with (go_at_call 54; refine HX.out.mono ?_; rintro e w' ⟨rfl, hb⟩; have HB2 := hid (HB.out.trans (hb.mono HB.out.size)); clear hb)
        go_roundg (l.length - (i + 1))
        case rel => exact ⟨i + 1, hlt, by go_num, rfl, HR, HB2⟩
        case measure => omega
    · have HR := hid (idxQ_none (by omega) HN.out)
      go_wp2
      go_ret
      exact ⟨ret_int' HR.out.symm, HB.out⟩
set_option maxRecDepth 100000 in
theorem contains37 (q : S37 → Bool) (p : Addr) (l : List S37) (A : Option Addr) (c : Nat) (w : World) (hC : Kd.C k37 w A l.length l)
    (ht : ∀ w', Below w.heap.size w w' → ∀ x ∈ l, ∀ A4 c4 A5 c5 A6 c6,x.f4.length ≤ c4 → Kd.string.C w' A4 x.f4.length x.f4 → x.f5.length ≤ c5 → k83.C w' A5 x.f5.length x.f5 → x.f6.length ≤ c6 → k40.C w' A6 x.f6.length x.f6 → Calls Tryd.prog 54 #[T37V x A4 c4 A5 c5 A6 c6, .pointer (some p)] w' fun e w'' => e = .returned (.bool (q x)) ∧ Below w'.heap.size w' w'') :
    Calls Tryd.prog 53 #[.slice A l.length c, .func (.func 54) #[] #[.pointer (some p)]] w fun e w' => e = .returned (.bool (l.any q)) ∧ Below w.heap.size w w' := by
  have HI := hid (index37 q p l A c w hC ht)
  have HA := hid (idxQ_any q l)
  clear hC ht
  generalize idxQ q l = n at HI HA
  generalize l.any q = r at HA ⊢
  go_enter Tryd.func53, Tryd.ntmps53
  go_wp2_with (go_at_call 82; refine HI.out.mono ?_; rintro e w' ⟨rfl, hb⟩)
  go_ret
  exact ⟨ret_bool' (by rw [← HA.out]), hb⟩
set_option maxRecDepth 100000 in
theorem each37_35 (q : S37 → Bool) (l : List S37) (A : Option Addr) (c : Nat) (w : World) (hC : Kd.C k37 w A l.length l)
    (ht : ∀ w', Below w.heap.size w w' → ∀ x ∈ l, ∀ A4 c4 A5 c5 A6 c6,x.f4.length ≤ c4 → Kd.string.C w' A4 x.f4.length x.f4 → x.f5.length ≤ c5 → k83.C w' A5 x.f5.length x.f5 → x.f6.length ≤ c6 → k40.C w' A6 x.f6.length x.f6 → Calls Tryd.prog 35 #[T37V x A4 c4 A5 c5 A6 c6] w' fun e w'' => e = .returned (.bool (q x)) ∧ Below w'.heap.size w' w'') :
    Calls Tryd.prog 34 #[.slice A l.length c, .func (.func 35) #[] #[]] w fun e w' => e = .returned (.bool (l.all q)) ∧ Below w.heap.size w w' := by
  have hmf : ∀ (fn : Fn) (first cap : Array Value) (w : World), (Instr.makeFunc fn first cap).run Tryd.prog w = .ok (.func fn first cap) w := fun _ _ _ _ => rfl
  have hB0 : Below w.heap.size w (w.alloc (.cells #[.func (.func 35) #[] #[]] 59)) := (Below.refl _ _).alloc (Nat.le_refl _) _
  have hbox : (w.alloc (.cells #[.func (.func 35) #[] #[]] 59)).heap[w.heap.size]? = some (.cells #[.func (.func 35) #[] #[]] 59 (0, 0)) := al_new' w _
  have hall : (!l.any fun x => !q x) = l.all q := by simp [List.all_eq_not_any_not]
  have HI := hid (contains37 (fun x => !q x) ⟨w.heap.size, 0, none⟩ l A c (w.alloc (.cells #[.func (.func 35) #[] #[]] 59)) (Kd.C_below hC hB0) (fun w' hb x hx A4 c4 A5 c5 A6 c6 l4 g4 l5 g5 l6 g6 => by
    have hs : w.heap.size < (w.alloc (.cells #[.func (.func 35) #[] #[]] 59)).heap.size := by simp
    have hcell : w'.cell? ⟨w.heap.size, 0, none⟩ = some (.func (.func 35) #[] #[]) := by
      have := (hb.block w.heap.size hs).trans hbox
      simp [World.cell?, this]
    have HX := hid (fun w2 (h2 : Below w'.heap.size w' w2) => ht w2 (hB0.trans ((hb.trans (h2.mono hb.size)).mono (by simp))) x hx A4 c4 A5 c5 A6 c6 l4 (Kd.C_below g4 h2) l5 (Kd.C_below g5 h2) l6 (Kd.C_below g6 h2))
    have hlt : w.heap.size < w'.heap.size := by have := hb.size; omega
    have hne : w.heap.size ≠ w'.heap.size := Nat.ne_of_lt hlt
    clear ht
    go_enter Tryd.func54, Tryd.ntmps54
    go_wp2_with (go_at_call 35; refine (HX.out _ ((Below.refl _ _).alloc (Nat.le_refl _) _)).mono ?_; rintro e w2 ⟨rfl, hb2⟩)
    go_ret
    exact ⟨rfl, ((Below.refl _ _).alloc (Nat.le_refl _) _).trans (hb2.mono (by simp))⟩))
  rw [← hall]
  clear hall ht hbox
  generalize (l.any fun x => !q x) = r at HI ⊢
  go_enter Tryd.func34, Tryd.ntmps34
  go_wp2_with (go_at_call 53; refine HI.out.mono ?_; rintro e w' ⟨rfl, hb⟩)
  go_ret
  exact ⟨rfl, hB0.trans (hb.mono (by simp))⟩
set_option maxRecDepth 100000 in
theorem each37_52 (q : S37 → Bool) (l : List S37) (A : Option Addr) (c : Nat) (w : World) (hC : Kd.C k37 w A l.length l)
    (ht : ∀ w', Below w.heap.size w w' → ∀ x ∈ l, ∀ A4 c4 A5 c5 A6 c6,x.f4.length ≤ c4 → Kd.string.C w' A4 x.f4.length x.f4 → x.f5.length ≤ c5 → k83.C w' A5 x.f5.length x.f5 → x.f6.length ≤ c6 → k40.C w' A6 x.f6.length x.f6 → Calls Tryd.prog 52 #[T37V x A4 c4 A5 c5 A6 c6] w' fun e w'' => e = .returned (.bool (q x)) ∧ Below w'.heap.size w' w'') :
    Calls Tryd.prog 34 #[.slice A l.length c, .func (.func 52) #[] #[]] w fun e w' => e = .returned (.bool (l.all q)) ∧ Below w.heap.size w w' := by
  have hmf : ∀ (fn : Fn) (first cap : Array Value) (w : World), (Instr.makeFunc fn first cap).run Tryd.prog w = .ok (.func fn first cap) w := fun _ _ _ _ => rfl
  have hB0 : Below w.heap.size w (w.alloc (.cells #[.func (.func 52) #[] #[]] 59)) := (Below.refl _ _).alloc (Nat.le_refl _) _
  have hbox : (w.alloc (.cells #[.func (.func 52) #[] #[]] 59)).heap[w.heap.size]? = some (.cells #[.func (.func 52) #[] #[]] 59 (0, 0)) := al_new' w _
  have hall : (!l.any fun x => !q x) = l.all q := by simp [List.all_eq_not_any_not]
  have HI := hid (contains37 (fun x => !q x) ⟨w.heap.size, 0, none⟩ l A c (w.alloc (.cells #[.func (.func 52) #[] #[]] 59)) (Kd.C_below hC hB0) (fun w' hb x hx A4 c4 A5 c5 A6 c6 l4 g4 l5 g5 l6 g6 => by
    have hs : w.heap.size < (w.alloc (.cells #[.func (.func 52) #[] #[]] 59)).heap.size := by simp
    have hcell : w'.cell? ⟨w.heap.size, 0, none⟩ = some (.func (.func 52) #[] #[]) := by
      have := (hb.block w.heap.size hs).trans hbox
      simp [World.cell?, this]
    have HX := hid (fun w2 (h2 : Below w'.heap.size w' w2) => ht w2 (hB0.trans ((hb.trans (h2.mono hb.size)).mono (by simp))) x hx A4 c4 A5 c5 A6 c6 l4 (Kd.C_below g4 h2) l5 (Kd.C_below g5 h2) l6 (Kd.C_below g6 h2))
    have hlt : w.heap.size < w'.heap.size := by have := hb.size; omega
    have hne : w.heap.size ≠ w'.heap.size := Nat.ne_of_lt hlt
    clear ht
    go_enter Tryd.func54, Tryd.ntmps54
    go_wp2_with (go_at_call 52; refine (HX.out _ ((Below.refl _ _).alloc (Nat.le_refl _) _)).mono ?_; rintro e w2 ⟨rfl, hb2⟩)
    go_ret
    exact ⟨rfl, ((Below.refl _ _).alloc (Nat.le_refl _) _).trans (hb2.mono (by simp))⟩))
  rw [← hall]
  clear hall ht hbox
  generalize (l.any fun x => !q x) = r at HI ⊢
  go_enter Tryd.func34, Tryd.ntmps34
  go_wp2_with (go_at_call 53; refine HI.out.mono ?_; rintro e w' ⟨rfl, hb⟩)
  go_ret
  exact ⟨rfl, hB0.trans (hb.mono (by simp))⟩
set_option maxRecDepth 100000 in
theorem each37_64 (q : S37 → Bool) (l : List S37) (A : Option Addr) (c : Nat) (w : World) (hC : Kd.C k37 w A l.length l)
    (ht : ∀ w', Below w.heap.size w w' → ∀ x ∈ l, ∀ A4 c4 A5 c5 A6 c6,x.f4.length ≤ c4 → Kd.string.C w' A4 x.f4.length x.f4 → x.f5.length ≤ c5 → k83.C w' A5 x.f5.length x.f5 → x.f6.length ≤ c6 → k40.C w' A6 x.f6.length x.f6 → Calls Tryd.prog 64 #[T37V x A4 c4 A5 c5 A6 c6] w' fun e w'' => e = .returned (.bool (q x)) ∧ Below w'.heap.size w' w'') :
    Calls Tryd.prog 34 #[.slice A l.length c, .func (.func 64) #[] #[]] w fun e w' => e = .returned (.bool (l.all q)) ∧ Below w.heap.size w w' := by
  have hmf : ∀ (fn : Fn) (first cap : Array Value) (w : World), (Instr.makeFunc fn first cap).run Tryd.prog w = .ok (.func fn first cap) w := fun _ _ _ _ => rfl
  have hB0 : Below w.heap.size w (w.alloc (.cells #[.func (.func 64) #[] #[]] 59)) := (Below.refl _ _).alloc (Nat.le_refl _) _
  have hbox : (w.alloc (.cells #[.func (.func 64) #[] #[]] 59)).heap[w.heap.size]? = some (.cells #[.func (.func 64) #[] #[]] 59 (0, 0)) := al_new' w _
  have hall : (!l.any fun x => !q x) = l.all q := by simp [List.all_eq_not_any_not]
  have HI := hid (contains37 (fun x => !q x) ⟨w.heap.size, 0, none⟩ l A c (w.alloc (.cells #[.func (.func 64) #[] #[]] 59)) (Kd.C_below hC hB0) (fun w' hb x hx A4 c4 A5 c5 A6 c6 l4 g4 l5 g5 l6 g6 => by
    have hs : w.heap.size < (w.alloc (.cells #[.func (.func 64) #[] #[]] 59)).heap.size := by simp
    have hcell : w'.cell? ⟨w.heap.size, 0, none⟩ = some (.func (.func 64) #[] #[]) := by
      have := (hb.block w.heap.size hs).trans hbox
      simp [World.cell?, this]
    have HX := hid (fun w2 (h2 : Below w'.heap.size w' w2) => ht w2 (hB0.trans ((hb.trans (h2.mono hb.size)).mono (by simp))) x hx A4 c4 A5 c5 A6 c6 l4 (Kd.C_below g4 h2) l5 (Kd.C_below g5 h2) l6 (Kd.C_below g6 h2))
    have hlt : w.heap.size < w'.heap.size := by have := hb.size; omega
    have hne : w.heap.size ≠ w'.heap.size := Nat.ne_of_lt hlt
    clear ht
    go_enter Tryd.func54, Tryd.ntmps54
    go_wp2_with (go_at_call 64; refine (HX.out _ ((Below.refl _ _).alloc (Nat.le_refl _) _)).mono ?_; rintro e w2 ⟨rfl, hb2⟩)
    go_ret
    exact ⟨rfl, ((Below.refl _ _).alloc (Nat.le_refl _) _).trans (hb2.mono (by simp))⟩))
  rw [← hall]
  clear hall ht hbox
  generalize (l.any fun x => !q x) = r at HI ⊢
  go_enter Tryd.func34, Tryd.ntmps34
  go_wp2_with (go_at_call 53; refine HI.out.mono ?_; rintro e w' ⟨rfl, hb⟩)
  go_ret
  exact ⟨rfl, hB0.trans (hb.mono (by simp))⟩
abbrev T9V (x : ByteArray)  : Value := .string x
set_option maxRecDepth 100000 in
theorem index9 (q : ByteArray → Bool) (p : Addr) (l : List ByteArray) (A : Option Addr) (c : Nat) (w : World) (hC : Kd.C Kd.string w A l.length l)
    (ht : ∀ w', Below w.heap.size w w' → ∀ x ∈ l, Calls Tryd.prog 81 #[T9V x, .pointer (some p)] w' fun e w'' => e = .returned (.bool (q x)) ∧ Below w'.heap.size w' w'') :
    Calls Tryd.prog 106 #[.slice A l.length c, .func (.func 81) #[] #[.pointer (some p)]] w fun e w' => e = .returned (.int .i64 (idxQ q l)) ∧ Below w.heap.size w w' := by
  have hm : l.length ≤ 9223372036854775807 := hC.2.1
  have HC := hid hC
  have HT := hid ht
  clear hC ht
  go_enter Tryd.func106, Tryd.ntmps106
  go_wp2
  go_loopg [8] l.length (fun gk v wr => ∃ i : Nat, i ≤ l.length ∧ v = .int .i64 i ∧ gk = l.length - i ∧ Hid (NoneUpTo q l i) ∧ Hid (Below w.heap.size w wr))
  case atStart => exact ⟨0, Nat.zero_le _, rfl, by omega, hid (fun j _ h => by omega), hid (Below.refl _ _)⟩
  case round =>
    obtain ⟨i, hi, rfl, rfl, HN, HB⟩ := hrel
    by_cases hlt : i < l.length
    · obtain ⟨ad, e, x0⟩ := at_T9 HC.out (i : Int) (by omega) (by omega)
      subst e
      have er : rd_T9 l (i : Int) = l[i] := by simp [rd_T9, List.getD, List.getElem?_eq_getElem hlt]
      rw [er] at x0 
      rw [Int.toNat_natCast] at x0
      rw [Nat.mul_one] at x0
      replace x0 := (HB.out.cell (World.block_lt_of_cell? w _ x0)).trans x0
      have HX := hid (HT.out wr HB.out l[i] (List.getElem_mem hlt) )
      clear er 
      cases hq : q l[i] with
      | true =>
        rw [hq] at HX
        have HR := hid (idxQ_hit hlt HN.out hq)
        clear hq
        go_wp2_with (go_at_call 81; refine HX.out.mono ?_; rintro e w' ⟨rfl, hb⟩)
        go_ret
        exact ⟨ret_int' HR.out.symm, HB.out.trans (hb.mono HB.out.size)⟩
      | false =>
        rw [hq] at HX
        have HR := hid (HN.out.next hlt hq)
        clear hq
        go_wp2_with (go_at_call 81; refine HX.out.mono ?_; rintro e w' ⟨rfl, hb⟩; have HB2 := hid (HB.out.trans (hb.mono HB.out.size)); clear hb)
        go_roundg (l.length - (i + 1))
        case rel => exact ⟨i + 1, hlt, by go_num, rfl, HR, HB2⟩
        case measure => omega
    · have HR := hid (idxQ_none (by omega) HN.out)
      go_wp2
      go_ret
      exact ⟨ret_int' HR.out.symm, HB.out⟩
set_option maxRecDepth 100000 in
theorem contains9 (q : ByteArray → Bool) (p : Addr) (l : List ByteArray) (A : Option Addr) (c : Nat) (w : World) (hC : Kd.C Kd.string w A l.length l)
    (ht : ∀ w', Below w.heap.size w w' → ∀ x ∈ l, Calls Tryd.prog 81 #[T9V x, .pointer (some p)] w' fun e w'' => e = .returned (.bool (q x)) ∧ Below w'.heap.size w' w'') :
    Calls Tryd.prog 80 #[.slice A l.length c, .func (.func 81) #[] #[.pointer (some p)]] w fun e w' => e = .returned (.bool (l.any q)) ∧ Below w.heap.size w w' := by
  have HI := hid (index9 q p l A c w hC ht)
  have HA := hid (idxQ_any q l)
  clear hC ht
  generalize idxQ q l = n at HI HA
  generalize l.any q = r at HA ⊢
  go_enter Tryd.func80, Tryd.ntmps80
  go_wp2_with (go_at_call 106; refine HI.out.mono ?_; rintro e w' ⟨rfl, hb⟩)
  go_ret
  exact ⟨ret_bool' (by rw [← HA.out]), hb⟩
set_option maxRecDepth 100000 in
theorem each9_51 (q : ByteArray → Bool) (l : List ByteArray) (A : Option Addr) (c : Nat) (w : World) (hC : Kd.C Kd.string w A l.length l)
    (ht : ∀ w', Below w.heap.size w w' → ∀ x ∈ l, Calls Tryd.prog 51 #[T9V x] w' fun e w'' => e = .returned (.bool (q x)) ∧ Below w'.heap.size w' w'') :
    Calls Tryd.prog 50 #[.slice A l.length c, .func (.func 51) #[] #[]] w fun e w' => e = .returned (.bool (l.all q)) ∧ Below w.heap.size w w' := by
  have hmf : ∀ (fn : Fn) (first cap : Array Value) (w : World), (Instr.makeFunc fn first cap).run Tryd.prog w = .ok (.func fn first cap) w := fun _ _ _ _ => rfl
  have hB0 : Below w.heap.size w (w.alloc (.cells #[.func (.func 51) #[] #[]] 80)) := (Below.refl _ _).alloc (Nat.le_refl _) _
  have hbox : (w.alloc (.cells #[.func (.func 51) #[] #[]] 80)).heap[w.heap.size]? = some (.cells #[.func (.func 51) #[] #[]] 80 (0, 0)) := al_new' w _
  have hall : (!l.any fun x => !q x) = l.all q := by simp [List.all_eq_not_any_not]
  have HI := hid (contains9 (fun x => !q x) ⟨w.heap.size, 0, none⟩ l A c (w.alloc (.cells #[.func (.func 51) #[] #[]] 80)) (Kd.C_below hC hB0) (fun w' hb x hx => by
    have hs : w.heap.size < (w.alloc (.cells #[.func (.func 51) #[] #[]] 80)).heap.size := by simp
    have hcell : w'.cell? ⟨w.heap.size, 0, none⟩ = some (.func (.func 51) #[] #[]) := by
      have := (hb.block w.heap.size hs).trans hbox
      simp [World.cell?, this]
    have HX := hid (fun w2 (h2 : Below w'.heap.size w' w2) => ht w2 (hB0.trans ((hb.trans (h2.mono hb.size)).mono (by simp))) x hx )
    have hlt : w.heap.size < w'.heap.size := by have := hb.size; omega
    have hne : w.heap.size ≠ w'.heap.size := Nat.ne_of_lt hlt
    clear ht
    go_enter Tryd.func81, Tryd.ntmps81
    go_wp2_with (go_at_call 51; refine (HX.out _ (Below.refl _ _)).mono ?_; rintro e w2 ⟨rfl, hb2⟩)
    go_ret
    exact ⟨rfl, hb2⟩))
  rw [← hall]
  clear hall ht hbox
  generalize (l.any fun x => !q x) = r at HI ⊢
  go_enter Tryd.func50, Tryd.ntmps50
  go_wp2_with (go_at_call 80; refine HI.out.mono ?_; rintro e w' ⟨rfl, hb⟩)
  go_ret
  exact ⟨rfl, hB0.trans (hb.mono (by simp))⟩
set_option maxRecDepth 100000 in
theorem each9_55 (q : ByteArray → Bool) (l : List ByteArray) (A : Option Addr) (c : Nat) (w : World) (hC : Kd.C Kd.string w A l.length l)
    (ht : ∀ w', Below w.heap.size w w' → ∀ x ∈ l, Calls Tryd.prog 55 #[T9V x] w' fun e w'' => e = .returned (.bool (q x)) ∧ Below w'.heap.size w' w'') :
    Calls Tryd.prog 50 #[.slice A l.length c, .func (.func 55) #[] #[]] w fun e w' => e = .returned (.bool (l.all q)) ∧ Below w.heap.size w w' := by
  have hmf : ∀ (fn : Fn) (first cap : Array Value) (w : World), (Instr.makeFunc fn first cap).run Tryd.prog w = .ok (.func fn first cap) w := fun _ _ _ _ => rfl
  have hB0 : Below w.heap.size w (w.alloc (.cells #[.func (.func 55) #[] #[]] 80)) := (Below.refl _ _).alloc (Nat.le_refl _) _
  have hbox : (w.alloc (.cells #[.func (.func 55) #[] #[]] 80)).heap[w.heap.size]? = some (.cells #[.func (.func 55) #[] #[]] 80 (0, 0)) := al_new' w _
  have hall : (!l.any fun x => !q x) = l.all q := by simp [List.all_eq_not_any_not]
  have HI := hid (contains9 (fun x => !q x) ⟨w.heap.size, 0, none⟩ l A c (w.alloc (.cells #[.func (.func 55) #[] #[]] 80)) (Kd.C_below hC hB0) (fun w' hb x hx => by
    have hs : w.heap.size < (w.alloc (.cells #[.func (.func 55) #[] #[]] 80)).heap.size := by simp
    have hcell : w'.cell? ⟨w.heap.size, 0, none⟩ = some (.func (.func 55) #[] #[]) := by
      have := (hb.block w.heap.size hs).trans hbox
      simp [World.cell?, this]
    have HX := hid (fun w2 (h2 : Below w'.heap.size w' w2) => ht w2 (hB0.trans ((hb.trans (h2.mono hb.size)).mono (by simp))) x hx )
    have hlt : w.heap.size < w'.heap.size := by have := hb.size; omega
    have hne : w.heap.size ≠ w'.heap.size := Nat.ne_of_lt hlt
    clear ht
    go_enter Tryd.func81, Tryd.ntmps81
    go_wp2_with (go_at_call 55; refine (HX.out _ (Below.refl _ _)).mono ?_; rintro e w2 ⟨rfl, hb2⟩)
    go_ret
    exact ⟨rfl, hb2⟩))
  rw [← hall]
  clear hall ht hbox
  generalize (l.any fun x => !q x) = r at HI ⊢
  go_enter Tryd.func50, Tryd.ntmps50
  go_wp2_with (go_at_call 80; refine HI.out.mono ?_; rintro e w' ⟨rfl, hb⟩)
  go_ret
  exact ⟨rfl, hB0.trans (hb.mono (by simp))⟩
abbrev T83V (x : S83)  : Value := .agg #[.string x.f0, .int .i64 x.f1.f0, .string x.f1.f1, .bool x.f2]
set_option maxRecDepth 100000 in
theorem index83 (q : S83 → Bool) (p : Addr) (l : List S83) (A : Option Addr) (c : Nat) (w : World) (hC : Kd.C k83 w A l.length l)
    (ht : ∀ w', Below w.heap.size w w' → ∀ x ∈ l, Calls Tryd.prog 87 #[T83V x, .pointer (some p)] w' fun e w'' => e = .returned (.bool (q x)) ∧ Below w'.heap.size w' w'') :
    Calls Tryd.prog 107 #[.slice A l.length c, .func (.func 87) #[] #[.pointer (some p)]] w fun e w' => e = .returned (.int .i64 (idxQ q l)) ∧ Below w.heap.size w w' := by
  have hm : l.length ≤ 9223372036854775807 := hC.2.1
  have HC := hid hC
  have HT := hid ht
  clear hC ht
  go_enter Tryd.func107, Tryd.ntmps107
  go_wp2
  go_loopg [8] l.length (fun gk v wr => ∃ i : Nat, i ≤ l.length ∧ v = .int .i64 i ∧ gk = l.length - i ∧ Hid (NoneUpTo q l i) ∧ Hid (Below w.heap.size w wr))
  case atStart => exact ⟨0, Nat.zero_le _, rfl, by omega, hid (fun j _ h => by omega), hid (Below.refl _ _)⟩
  case round =>
    obtain ⟨i, hi, rfl, rfl, HN, HB⟩ := hrel
    by_cases hlt : i < l.length
    · obtain ⟨ad, e, x0, x1, x2, x3⟩ := at_T83 HC.out (i : Int) (by omega) (by omega)
      subst e
      have er : rd_T83 l (i : Int) = l[i] := by simp [rd_T83, List.getD, List.getElem?_eq_getElem hlt]
      rw [er] at x0 x1 x2 x3 
      rw [Int.toNat_natCast] at x0 x1 x2 x3
      replace x0 := (HB.out.cell (World.block_lt_of_cell? w _ x0)).trans x0
      replace x1 := (HB.out.cell (World.block_lt_of_cell? w _ x1)).trans x1
      replace x2 := (HB.out.cell (World.block_lt_of_cell? w _ x2)).trans x2
      replace x3 := (HB.out.cell (World.block_lt_of_cell? w _ x3)).trans x3
      have HX := hid (HT.out wr HB.out l[i] (List.getElem_mem hlt) )
      clear er 
      cases hq : q l[i] with
      | true =>
        rw [hq] at HX
        have HR := hid (idxQ_hit hlt HN.out hq)
        clear hq
        go_wp2_with (go_at_call 87; refine HX.out.mono ?_; rintro e w' ⟨rfl, hb⟩)
        go_ret
        exact ⟨ret_int' HR.out.symm, HB.out.trans (hb.mono HB.out.size)⟩
      | false =>
        rw [hq] at HX
        have HR := hid (HN.out.next hlt hq)
        clear hq
        go_wp2_with (go_at_call 87; refine HX.out.mono ?_; rintro e w' ⟨rfl, hb⟩; have HB2 := hid (HB.out.trans (hb.mono HB.out.size)); clear hb)
        go_roundg (l.length - (i + 1))
        case rel => exact ⟨i + 1, hlt, by go_num, rfl, HR, HB2⟩
        case measure => omega
    · have HR := hid (idxQ_none (by omega) HN.out)
      go_wp2
      go_ret
      exact ⟨ret_int' HR.out.symm, HB.out⟩
set_option maxRecDepth 100000 in
theorem contains83 (q : S83 → Bool) (p : Addr) (l : List S83) (A : Option Addr) (c : Nat) (w : World) (hC : Kd.C k83 w A l.length l)
    (ht : ∀ w', Below w.heap.size w w' → ∀ x ∈ l, Calls Tryd.prog 87 #[T83V x, .pointer (some p)] w' fun e w'' => e = .returned (.bool (q x)) ∧ Below w'.heap.size w' w'') :
    Calls Tryd.prog 86 #[.slice A l.length c, .func (.func 87) #[] #[.pointer (some p)]] w fun e w' => e = .returned (.bool (l.any q)) ∧ Below w.heap.size w w' := by
  have HI := hid (index83 q p l A c w hC ht)
  have HA := hid (idxQ_any q l)
  clear hC ht
  generalize idxQ q l = n at HI HA
  generalize l.any q = r at HA ⊢
  go_enter Tryd.func86, Tryd.ntmps86
  go_wp2_with (go_at_call 107; refine HI.out.mono ?_; rintro e w' ⟨rfl, hb⟩)
  go_ret
  exact ⟨ret_bool' (by rw [← HA.out]), hb⟩
set_option maxRecDepth 100000 in
theorem each83_57 (q : S83 → Bool) (l : List S83) (A : Option Addr) (c : Nat) (w : World) (hC : Kd.C k83 w A l.length l)
    (ht : ∀ w', Below w.heap.size w w' → ∀ x ∈ l, Calls Tryd.prog 57 #[T83V x] w' fun e w'' => e = .returned (.bool (q x)) ∧ Below w'.heap.size w' w'') :
    Calls Tryd.prog 56 #[.slice A l.length c, .func (.func 57) #[] #[]] w fun e w' => e = .returned (.bool (l.all q)) ∧ Below w.heap.size w w' := by
  have hmf : ∀ (fn : Fn) (first cap : Array Value) (w : World), (Instr.makeFunc fn first cap).run Tryd.prog w = .ok (.func fn first cap) w := fun _ _ _ _ => rfl
  have hB0 : Below w.heap.size w (w.alloc (.cells #[.func (.func 57) #[] #[]] 84)) := (Below.refl _ _).alloc (Nat.le_refl _) _
  have hbox : (w.alloc (.cells #[.func (.func 57) #[] #[]] 84)).heap[w.heap.size]? = some (.cells #[.func (.func 57) #[] #[]] 84 (0, 0)) := al_new' w _
  have hall : (!l.any fun x => !q x) = l.all q := by simp [List.all_eq_not_any_not]
  have HI := hid (contains83 (fun x => !q x) ⟨w.heap.size, 0, none⟩ l A c (w.alloc (.cells #[.func (.func 57) #[] #[]] 84)) (Kd.C_below hC hB0) (fun w' hb x hx => by
    have hs : w.heap.size < (w.alloc (.cells #[.func (.func 57) #[] #[]] 84)).heap.size := by simp
    have hcell : w'.cell? ⟨w.heap.size, 0, none⟩ = some (.func (.func 57) #[] #[]) := by
      have := (hb.block w.heap.size hs).trans hbox
      simp [World.cell?, this]
    have HX := hid (fun w2 (h2 : Below w'.heap.size w' w2) => ht w2 (hB0.trans ((hb.trans (h2.mono hb.size)).mono (by simp))) x hx )
    have hlt : w.heap.size < w'.heap.size := by have := hb.size; omega
    have hne : w.heap.size ≠ w'.heap.size := Nat.ne_of_lt hlt
    clear ht
    go_enter Tryd.func87, Tryd.ntmps87
    go_wp2_with (go_at_call 57; refine (HX.out _ ((Below.refl _ _).alloc (Nat.le_refl _) _)).mono ?_; rintro e w2 ⟨rfl, hb2⟩)
    go_ret
    exact ⟨rfl, ((Below.refl _ _).alloc (Nat.le_refl _) _).trans (hb2.mono (by simp))⟩))
  rw [← hall]
  clear hall ht hbox
  generalize (l.any fun x => !q x) = r at HI ⊢
  go_enter Tryd.func56, Tryd.ntmps56
  go_wp2_with (go_at_call 86; refine HI.out.mono ?_; rintro e w' ⟨rfl, hb⟩)
  go_ret
  exact ⟨rfl, hB0.trans (hb.mono (by simp))⟩
abbrev T40V (x : S40) (A5 : Option Addr) (c5 : Nat) : Value := .agg #[.string x.f0, .string x.f1, .bool x.f2, .bool x.f3, .int .i64 x.f4, .slice A5 x.f5.length c5]
set_option maxRecDepth 100000 in
theorem index40 (q : S40 → Bool) (p : Addr) (l : List S40) (A : Option Addr) (c : Nat) (w : World) (hC : Kd.C k40 w A l.length l)
    (ht : ∀ w', Below w.heap.size w w' → ∀ x ∈ l, ∀ A5 c5,x.f5.length ≤ c5 → k44.C w' A5 x.f5.length x.f5 → Calls Tryd.prog 90 #[T40V x A5 c5, .pointer (some p)] w' fun e w'' => e = .returned (.bool (q x)) ∧ Below w'.heap.size w' w'') :
    Calls Tryd.prog 108 #[.slice A l.length c, .func (.func 90) #[] #[.pointer (some p)]] w fun e w' => e = .returned (.int .i64 (idxQ q l)) ∧ Below w.heap.size w w' := by
  have hm : l.length ≤ 9223372036854775807 := hC.2.1
  have HC := hid hC
  have HT := hid ht
  clear hC ht
  go_enter Tryd.func108, Tryd.ntmps108
  go_wp2
  go_loopg [8] l.length (fun gk v wr => ∃ i : Nat, i ≤ l.length ∧ v = .int .i64 i ∧ gk = l.length - i ∧ Hid (NoneUpTo q l i) ∧ Hid (Below w.heap.size w wr))
  case atStart => exact ⟨0, Nat.zero_le _, rfl, by omega, hid (fun j _ h => by omega), hid (Below.refl _ _)⟩
  case round =>
    obtain ⟨i, hi, rfl, rfl, HN, HB⟩ := hrel
    by_cases hlt : i < l.length
    · obtain ⟨ad, A5, c5, e, x0, x1, x2, x3, x4, x5, l5, g5⟩ := at_T40 HC.out (i : Int) (by omega) (by omega)
      subst e
      have er : rd_T40 l (i : Int) = l[i] := by simp [rd_T40, List.getD, List.getElem?_eq_getElem hlt]
      rw [er] at x0 x1 x2 x3 x4 x5 l5 g5
      rw [Int.toNat_natCast] at x0 x1 x2 x3 x4 x5
      replace x0 := (HB.out.cell (World.block_lt_of_cell? w _ x0)).trans x0
      replace x1 := (HB.out.cell (World.block_lt_of_cell? w _ x1)).trans x1
      replace x2 := (HB.out.cell (World.block_lt_of_cell? w _ x2)).trans x2
      replace x3 := (HB.out.cell (World.block_lt_of_cell? w _ x3)).trans x3
      replace x4 := (HB.out.cell (World.block_lt_of_cell? w _ x4)).trans x4
      replace x5 := (HB.out.cell (World.block_lt_of_cell? w _ x5)).trans x5
      have HX := hid (HT.out wr HB.out l[i] (List.getElem_mem hlt) A5 c5 l5 (Kd.C_below g5 HB.out))
      clear er l5 g5
      cases hq : q l[i] with
      | true =>
        rw [hq] at HX
        have HR := hid (idxQ_hit hlt HN.out hq)
        clear hq
        go_wp2_with (go_at_call 90; refine HX.out.mono ?_; rintro e w' ⟨rfl, hb⟩)
        go_ret
        exact ⟨ret_int' HR.out.symm, HB.out.trans (hb.mono HB.out.size)⟩
      | false =>
        rw [hq] at HX
        have HR := hid (HN.out.next hlt hq)
        clear hq
        go_wp2_with (go_at_call 90; refine HX.out.mono ?_; rintro e w' ⟨rfl, hb⟩; have HB2 := hid (HB.out.trans (hb.mono HB.out.size)); clear hb)
        go_roundg (l.length - (i + 1))
        case rel => exact ⟨i + 1, hlt, by go_num, rfl, HR, HB2⟩
        case measure => omega
    · have HR := hid (idxQ_none (by omega) HN.out)
      go_wp2
      go_ret
      exact ⟨ret_int' HR.out.symm, HB.out⟩
set_option maxRecDepth 100000 in
theorem contains40 (q : S40 → Bool) (p : Addr) (l : List S40) (A : Option Addr) (c : Nat) (w : World) (hC : Kd.C k40 w A l.length l)
    (ht : ∀ w', Below w.heap.size w w' → ∀ x ∈ l, ∀ A5 c5,x.f5.length ≤ c5 → k44.C w' A5 x.f5.length x.f5 → Calls Tryd.prog 90 #[T40V x A5 c5, .pointer (some p)] w' fun e w'' => e = .returned (.bool (q x)) ∧ Below w'.heap.size w' w'') :
    Calls Tryd.prog 89 #[.slice A l.length c, .func (.func 90) #[] #[.pointer (some p)]] w fun e w' => e = .returned (.bool (l.any q)) ∧ Below w.heap.size w w' := by
  have HI := hid (index40 q p l A c w hC ht)
  have HA := hid (idxQ_any q l)
  clear hC ht
  generalize idxQ q l = n at HI HA
  generalize l.any q = r at HA ⊢
  go_enter Tryd.func89, Tryd.ntmps89
  go_wp2_with (go_at_call 108; refine HI.out.mono ?_; rintro e w' ⟨rfl, hb⟩)
  go_ret
  exact ⟨ret_bool' (by rw [← HA.out]), hb⟩
set_option maxRecDepth 100000 in
theorem each40_59 (q : S40 → Bool) (p2 : Addr) (l : List S40) (A : Option Addr) (c : Nat) (w : World) (hC : Kd.C k40 w A l.length l)
    (ht : ∀ w', Below w.heap.size w w' → ∀ x ∈ l, ∀ A5 c5,x.f5.length ≤ c5 → k44.C w' A5 x.f5.length x.f5 → Calls Tryd.prog 59 #[T40V x A5 c5, .pointer (some p2)] w' fun e w'' => e = .returned (.bool (q x)) ∧ Below w'.heap.size w' w'') :
    Calls Tryd.prog 58 #[.slice A l.length c, .func (.func 59) #[] #[.pointer (some p2)]] w fun e w' => e = .returned (.bool (l.all q)) ∧ Below w.heap.size w w' := by
  have hmf : ∀ (fn : Fn) (first cap : Array Value) (w : World), (Instr.makeFunc fn first cap).run Tryd.prog w = .ok (.func fn first cap) w := fun _ _ _ _ => rfl
  have hB0 : Below w.heap.size w (w.alloc (.cells #[.func (.func 59) #[] #[.pointer (some p2)]] 86)) := (Below.refl _ _).alloc (Nat.le_refl _) _
  have hbox : (w.alloc (.cells #[.func (.func 59) #[] #[.pointer (some p2)]] 86)).heap[w.heap.size]? = some (.cells #[.func (.func 59) #[] #[.pointer (some p2)]] 86 (0, 0)) := al_new' w _
  have hall : (!l.any fun x => !q x) = l.all q := by simp [List.all_eq_not_any_not]
  have HI := hid (contains40 (fun x => !q x) ⟨w.heap.size, 0, none⟩ l A c (w.alloc (.cells #[.func (.func 59) #[] #[.pointer (some p2)]] 86)) (Kd.C_below hC hB0) (fun w' hb x hx A5 c5 l5 g5 => by
    have hs : w.heap.size < (w.alloc (.cells #[.func (.func 59) #[] #[.pointer (some p2)]] 86)).heap.size := by simp
    have hcell : w'.cell? ⟨w.heap.size, 0, none⟩ = some (.func (.func 59) #[] #[.pointer (some p2)]) := by
      have := (hb.block w.heap.size hs).trans hbox
      simp [World.cell?, this]
    have HX := hid (fun w2 (h2 : Below w'.heap.size w' w2) => ht w2 (hB0.trans ((hb.trans (h2.mono hb.size)).mono (by simp))) x hx A5 c5 l5 (Kd.C_below g5 h2))
    have hlt : w.heap.size < w'.heap.size := by have := hb.size; omega
    have hne : w.heap.size ≠ w'.heap.size := Nat.ne_of_lt hlt
    clear ht
    go_enter Tryd.func90, Tryd.ntmps90
    go_wp2_with (go_at_call 59; refine (HX.out _ ((Below.refl _ _).alloc (Nat.le_refl _) _)).mono ?_; rintro e w2 ⟨rfl, hb2⟩)
    go_ret
    exact ⟨rfl, ((Below.refl _ _).alloc (Nat.le_refl _) _).trans (hb2.mono (by simp))⟩))
  rw [← hall]
  clear hall ht hbox
  generalize (l.any fun x => !q x) = r at HI ⊢
  go_enter Tryd.func58, Tryd.ntmps58
  go_wp2_with (go_at_call 89; refine HI.out.mono ?_; rintro e w' ⟨rfl, hb⟩)
  go_ret
  exact ⟨rfl, hB0.trans (hb.mono (by simp))⟩
abbrev T44V (x : S44) (A8 : Option Addr) (c8 : Nat) : Value := .agg #[.int .i64 x.f0, .int .i64 x.f1, .int .i64 x.f2, .int .i64 x.f3, .int .i64 x.f4, .string x.f5, .string x.f6, .string x.f7, .slice A8 x.f8.length c8]
set_option maxRecDepth 100000 in
theorem index44 (q : S44 → Bool) (p : Addr) (l : List S44) (A : Option Addr) (c : Nat) (w : World) (hC : Kd.C k44 w A l.length l)
    (ht : ∀ w', Below w.heap.size w w' → ∀ x ∈ l, ∀ A8 c8,x.f8.length ≤ c8 → (Kd.int .i64).C w' A8 x.f8.length x.f8 → Calls Tryd.prog 117 #[T44V x A8 c8, .pointer (some p)] w' fun e w'' => e = .returned (.bool (q x)) ∧ Below w'.heap.size w' w'') :
    Calls Tryd.prog 119 #[.slice A l.length c, .func (.func 117) #[] #[.pointer (some p)]] w fun e w' => e = .returned (.int .i64 (idxQ q l)) ∧ Below w.heap.size w w' := by
  have hm : l.length ≤ 9223372036854775807 := hC.2.1
  have HC := hid hC
  have HT := hid ht
  clear hC ht
  go_enter Tryd.func119, Tryd.ntmps119
  go_wp2
  go_loopg [8] l.length (fun gk v wr => ∃ i : Nat, i ≤ l.length ∧ v = .int .i64 i ∧ gk = l.length - i ∧ Hid (NoneUpTo q l i) ∧ Hid (Below w.heap.size w wr))
  case atStart => exact ⟨0, Nat.zero_le _, rfl, by omega, hid (fun j _ h => by omega), hid (Below.refl _ _)⟩
  case round =>
    obtain ⟨i, hi, rfl, rfl, HN, HB⟩ := hrel
    by_cases hlt : i < l.length
    · obtain ⟨ad, A8, c8, e, x0, x1, x2, x3, x4, x5, x6, x7, x8, l8, g8⟩ := at_T44 HC.out (i : Int) (by omega) (by omega)
      subst e
      have er : rd_T44 l (i : Int) = l[i] := by simp [rd_T44, List.getD, List.getElem?_eq_getElem hlt]
      rw [er] at x0 x1 x2 x3 x4 x5 x6 x7 x8 l8 g8
      rw [Int.toNat_natCast] at x0 x1 x2 x3 x4 x5 x6 x7 x8
      replace x0 := (HB.out.cell (World.block_lt_of_cell? w _ x0)).trans x0
      replace x1 := (HB.out.cell (World.block_lt_of_cell? w _ x1)).trans x1
      replace x2 := (HB.out.cell (World.block_lt_of_cell? w _ x2)).trans x2
      replace x3 := (HB.out.cell (World.block_lt_of_cell? w _ x3)).trans x3
      replace x4 := (HB.out.cell (World.block_lt_of_cell? w _ x4)).trans x4
      replace x5 := (HB.out.cell (World.block_lt_of_cell? w _ x5)).trans x5
      replace x6 := (HB.out.cell (World.block_lt_of_cell? w _ x6)).trans x6
      replace x7 := (HB.out.cell (World.block_lt_of_cell? w _ x7)).trans x7
      replace x8 := (HB.out.cell (World.block_lt_of_cell? w _ x8)).trans x8
      have HX := hid (HT.out wr HB.out l[i] (List.getElem_mem hlt) A8 c8 l8 (Kd.C_below g8 HB.out))
      clear er l8 g8
      cases hq : q l[i] with
      | true =>
        rw [hq] at HX
        have HR := hid (idxQ_hit hlt HN.out hq)
        clear hq
        go_wp2_with (go_at_call 117; refine HX.out.mono ?_; rintro e w' ⟨rfl, hb⟩)
        go_ret
        exact ⟨ret_int' HR.out.symm, HB.out.trans (hb.mono HB.out.size)⟩
      | false =>
        rw [hq] at HX
        have HR := hid (HN.out.next hlt hq)
        clear hq
        go_wp2_with (go_at_call 117; refine HX.out.mono ?_; rintro e w' ⟨rfl, hb⟩; have HB2 := hid (HB.out.trans (hb.mono HB.out.size)); clear hb)
        go_roundg (l.length - (i + 1))
        case rel => exact ⟨i + 1, hlt, by go_num, rfl, HR, HB2⟩
        case measure => omega
    · have HR := hid (idxQ_none (by omega) HN.out)
      go_wp2
      go_ret
      exact ⟨ret_int' HR.out.symm, HB.out⟩
set_option maxRecDepth 100000 in
theorem contains44 (q : S44 → Bool) (p : Addr) (l : List S44) (A : Option Addr) (c : Nat) (w : World) (hC : Kd.C k44 w A l.length l)
    (ht : ∀ w', Below w.heap.size w w' → ∀ x ∈ l, ∀ A8 c8,x.f8.length ≤ c8 → (Kd.int .i64).C w' A8 x.f8.length x.f8 → Calls Tryd.prog 117 #[T44V x A8 c8, .pointer (some p)] w' fun e w'' => e = .returned (.bool (q x)) ∧ Below w'.heap.size w' w'') :
    Calls Tryd.prog 116 #[.slice A l.length c, .func (.func 117) #[] #[.pointer (some p)]] w fun e w' => e = .returned (.bool (l.any q)) ∧ Below w.heap.size w w' := by
  have HI := hid (index44 q p l A c w hC ht)
  have HA := hid (idxQ_any q l)
  clear hC ht
  generalize idxQ q l = n at HI HA
  generalize l.any q = r at HA ⊢
  go_enter Tryd.func116, Tryd.ntmps116
  go_wp2_with (go_at_call 119; refine HI.out.mono ?_; rintro e w' ⟨rfl, hb⟩)
  go_ret
  exact ⟨ret_bool' (by rw [← HA.out]), hb⟩
set_option maxRecDepth 100000 in
theorem each44_110 (q : S44 → Bool) (p2 : Addr) (l : List S44) (A : Option Addr) (c : Nat) (w : World) (hC : Kd.C k44 w A l.length l)
    (ht : ∀ w', Below w.heap.size w w' → ∀ x ∈ l, ∀ A8 c8,x.f8.length ≤ c8 → (Kd.int .i64).C w' A8 x.f8.length x.f8 → Calls Tryd.prog 110 #[T44V x A8 c8, .pointer (some p2)] w' fun e w'' => e = .returned (.bool (q x)) ∧ Below w'.heap.size w' w'') :
    Calls Tryd.prog 109 #[.slice A l.length c, .func (.func 110) #[] #[.pointer (some p2)]] w fun e w' => e = .returned (.bool (l.all q)) ∧ Below w.heap.size w w' := by
  have hmf : ∀ (fn : Fn) (first cap : Array Value) (w : World), (Instr.makeFunc fn first cap).run Tryd.prog w = .ok (.func fn first cap) w := fun _ _ _ _ => rfl
  have hB0 : Below w.heap.size w (w.alloc (.cells #[.func (.func 110) #[] #[.pointer (some p2)]] 50)) := (Below.refl _ _).alloc (Nat.le_refl _) _
  have hbox : (w.alloc (.cells #[.func (.func 110) #[] #[.pointer (some p2)]] 50)).heap[w.heap.size]? = some (.cells #[.func (.func 110) #[] #[.pointer (some p2)]] 50 (0, 0)) := al_new' w _
  have hall : (!l.any fun x => !q x) = l.all q := by simp [List.all_eq_not_any_not]
  have HI := hid (contains44 (fun x => !q x) ⟨w.heap.size, 0, none⟩ l A c (w.alloc (.cells #[.func (.func 110) #[] #[.pointer (some p2)]] 50)) (Kd.C_below hC hB0) (fun w' hb x hx A8 c8 l8 g8 => by
    have hs : w.heap.size < (w.alloc (.cells #[.func (.func 110) #[] #[.pointer (some p2)]] 50)).heap.size := by simp
    have hcell : w'.cell? ⟨w.heap.size, 0, none⟩ = some (.func (.func 110) #[] #[.pointer (some p2)]) := by
      have := (hb.block w.heap.size hs).trans hbox
      simp [World.cell?, this]
    have HX := hid (fun w2 (h2 : Below w'.heap.size w' w2) => ht w2 (hB0.trans ((hb.trans (h2.mono hb.size)).mono (by simp))) x hx A8 c8 l8 (Kd.C_below g8 h2))
    have hlt : w.heap.size < w'.heap.size := by have := hb.size; omega
    have hne : w.heap.size ≠ w'.heap.size := Nat.ne_of_lt hlt
    clear ht
    go_enter Tryd.func117, Tryd.ntmps117
    go_wp2_with (go_at_call 110; refine (HX.out _ ((Below.refl _ _).alloc (Nat.le_refl _) _)).mono ?_; rintro e w2 ⟨rfl, hb2⟩)
    go_ret
    exact ⟨rfl, ((Below.refl _ _).alloc (Nat.le_refl _) _).trans (hb2.mono (by simp))⟩))
  rw [← hall]
  clear hall ht hbox
  generalize (l.any fun x => !q x) = r at HI ⊢
  go_enter Tryd.func109, Tryd.ntmps109
  go_wp2_with (go_at_call 116; refine HI.out.mono ?_; rintro e w' ⟨rfl, hb⟩)
  go_ret
  exact ⟨rfl, hB0.trans (hb.mono (by simp))⟩
end Go.Proofs.YtmamaijiphdggaaDoor.Given
