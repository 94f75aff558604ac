/- A program among the arguments, opened into its classes, names and entry. -/
import Derived.Test.YtmamaijiphdggaaDoorOpenI
import Derived.Test.YtmamaijiphdggaaDoorRightB
import Derived.DataElems
namespace Go.Proofs.YtmamaijiphdggaaDoor.Given
open Go.ChangeShapes Go.WideShapes Go.RowKit Go.Lib
open Go.Proofs.YtmamaijiphdggaaDoorW.PrintWords
set_option linter.unusedVariables false

/- Slices among the arguments, opened at elements of any kind. -/
theorem rows_open {α H : Type} (d : Kd α) (good : α → Prop) {enc : TypeId × Value → H} {W : World} {base : Nat} {held : Bool} {t e : TypeId} {fuel : Nat} {c : Value} {x : DataW H × List MemPlace}
    (ht : Tryd.prog.underlying t = some (.slice e)) (hc : Tryd.prog.cellsOf e = d.sz)
    (el : ∀ {fuel : Nat} {cs : List Value} {x : DataW H × List MemPlace}, cs.length = d.sz → DataW.trod enc Tryd.prog W base (fun _ => true) held fuel e cs = some x → ∃ p, d.K W p cs ∧ good p)
    (h : DataW.trod enc Tryd.prog W base (fun _ => true) held fuel t [c] = some x) :
    ∃ (A : Option Addr) (l : List α) (cap : Nat), c = .slice A l.length cap ∧ d.C W A l.length l ∧ l.length ≤ cap ∧ ∀ p ∈ l, good p := by
  rcases DataW.trod_slice ht h with ⟨hcs, _⟩ | ⟨a, len, cap, elems, rest, n, _, hcs, _, _, hl, hm, hlen, hel, _⟩
  · simp only [List.cons.injEq, and_true] at hcs
    exact ⟨none, [], 0, hcs, Kd.C_nil _ _, Nat.le_refl _, by simp⟩
  · simp only [List.cons.injEq, and_true] at hcs
    have one : ∀ i, i < len → ∃ p cs, cs.length = d.sz ∧ d.K W p cs ∧ good p ∧ ∀ j u, cs[j]? = some u → W.cell? (a.add (i * d.sz + j)) = some u := by
      intro i hi
      have hk := hel i hi
      rw [List.getElem?_eq_getElem (by omega)] at hk
      obtain ⟨cs, h1, h2⟩ := Option.bind_eq_some_iff.1 hk
      rw [hc] at h1
      obtain ⟨_, hln, hcell⟩ := World.cells?_some h1
      obtain ⟨p, hK, hg⟩ := el hln h2
      refine ⟨p, cs, hln, hK, hg, fun j u hj => ?_⟩
      have hjl := (List.getElem?_eq_some_iff.1 hj).1
      have := hcell j (by omega)
      rw [Addr.add_add, hj] at this
      exact this
    have all : ∀ m, m ≤ len → ∃ l : List α, l.length = m ∧ ∀ i p, l[i]? = some p → ∃ cs, cs.length = d.sz ∧ d.K W p cs ∧ good p ∧ ∀ j u, cs[j]? = some u → W.cell? (a.add (i * d.sz + j)) = some u := by
      intro m
      induction m with
      | zero => exact fun _ => ⟨[], rfl, fun i p h => by simp at h⟩
      | succ m ih =>
        intro hm'
        obtain ⟨l, hll, hl'⟩ := ih (by omega)
        obtain ⟨p, cs, hp⟩ := one m (by omega)
        refine ⟨l ++ [p], by simp [hll], fun i q hq => ?_⟩
        by_cases hi : i < l.length
        · rw [List.getElem?_append_left hi] at hq
          exact hl' i q hq
        · rw [List.getElem?_append_right (by omega)] at hq
          by_cases h0 : i - l.length = 0
          · rw [h0] at hq
            have e1 : p = q := by simpa using hq
            have e2 : i = m := by omega
            subst e1 e2
            exact ⟨cs, hp⟩
          · rw [List.getElem?_eq_none (by simp; omega)] at hq
            cases hq
    obtain ⟨l, hll, hl'⟩ := all len (Nat.le_refl _)
    refine ⟨some a, l, cap, by rw [hcs, hll], ⟨rfl, by have : maxLen = 9223372036854775807 := rfl; omega, fun _ => ⟨a, rfl, fun j p hj => ?_⟩⟩, by omega, fun p hp => ?_⟩
    · obtain ⟨cs, k1, k2, _, k4⟩ := hl' j p hj
      exact ⟨cs, k1, k2, k4⟩
    · obtain ⟨i, hi⟩ := List.mem_iff_getElem?.1 hp
      obtain ⟨cs, _, _, k3, _⟩ := hl' i p hi
      exact k3
theorem lst2 {α : Type} {l : List α} (h : l.length = 2) : ∃ c0 c1, l = [c0, c1] := by
  match l, h with
  | [c0, c1], _ => exact ⟨c0, c1, rfl⟩
theorem lst3 {α : Type} {l : List α} (h : l.length = 3) : ∃ c0 c1 c2, l = [c0, c1, c2] := by
  match l, h with
  | [c0, c1, c2], _ => exact ⟨c0, c1, c2, rfl⟩
theorem lst4 {α : Type} {l : List α} (h : l.length = 4) : ∃ c0 c1 c2 c3, l = [c0, c1, c2, c3] := by
  match l, h with
  | [c0, c1, c2, c3], _ => exact ⟨c0, c1, c2, c3, rfl⟩
theorem lst6 {α : Type} {l : List α} (h : l.length = 6) : ∃ c0 c1 c2 c3 c4 c5, l = [c0, c1, c2, c3, c4, c5] := by
  match l, h with
  | [c0, c1, c2, c3, c4, c5], _ => exact ⟨c0, c1, c2, c3, c4, c5, rfl⟩
theorem lst7 {α : Type} {l : List α} (h : l.length = 7) : ∃ c0 c1 c2 c3 c4 c5 c6, l = [c0, c1, c2, c3, c4, c5, c6] := by
  match l, h with
  | [c0, c1, c2, c3, c4, c5, c6], _ => exact ⟨c0, c1, c2, c3, c4, c5, c6, rfl⟩
theorem lst9 {α : Type} {l : List α} (h : l.length = 9) : ∃ c0 c1 c2 c3 c4 c5 c6 c7 c8, l = [c0, c1, c2, c3, c4, c5, c6, c7, c8] := list9 h
/-- What is known of the sizes within. -/
def g75 (x : S75) : Prop := x.f1.size ≤ maxLen
def g83 (x : S83) : Prop := x.f0.size ≤ maxLen ∧ g75 x.f1
def g44 (x : S44) : Prop := x.f5.size ≤ maxLen ∧ x.f6.size ≤ maxLen ∧ x.f7.size ≤ maxLen
def g40 (x : S40) : Prop := x.f0.size ≤ maxLen ∧ x.f1.size ≤ maxLen ∧ ∀ y ∈ x.f5, g44 y
def g37 (x : S37) : Prop := x.f0.size ≤ maxLen ∧ x.f1.size ≤ maxLen ∧ (∀ s ∈ x.f4, s.size ≤ maxLen) ∧ (∀ f ∈ x.f5, g83 f) ∧ ∀ m ∈ x.f6, g40 m
theorem el_int {H : Type} {enc : TypeId × Value → H} {W : World} {base : Nat} {held : Bool} {fuel : Nat} {cs : List Value} {x : DataW H × List MemPlace} (hl : cs.length = 1) (h : DataW.trod enc Tryd.prog W base (fun _ => true) held fuel 3 cs = some x) : ∃ p, (Kd.int .i64).K W p cs ∧ True := by
  obtain ⟨n, e, _, _⟩ := DataW.trod_int Tryd.underlying3 h
  exact ⟨n, e, trivial⟩
theorem el_string {H : Type} {enc : TypeId × Value → H} {W : World} {base : Nat} {held : Bool} {fuel : Nat} {cs : List Value} {x : DataW H × List MemPlace} (hl : cs.length = 1) (h : DataW.trod enc Tryd.prog W base (fun _ => true) held fuel 9 cs = some x) : ∃ p, Kd.string.K W p cs ∧ p.size ≤ maxLen := by
  obtain ⟨s, e, _, hs⟩ := DataW.trod_string Tryd.underlying9 h
  exact ⟨s, e, hs⟩
theorem el_75 {H : Type} {enc : TypeId × Value → H} {W : World} {base : Nat} {held : Bool} {fuel : Nat} {cs : List Value} {x : DataW H × List MemPlace} (hl : cs.length = k75.sz) (h : DataW.trod enc Tryd.prog W base (fun _ => true) held fuel 75 cs = some x) : ∃ p, k75.K W p cs ∧ g75 p := by
  obtain ⟨xs, n, _, _, hl', hlen, hfi⟩ := DataW.trod_struct Tryd.underlying75 h
  have hcn : Tryd.prog.cellsOf 75 = 2 := by kernel_rfl
  rw [hcn] at hl'
  obtain ⟨c0, c1, rfl⟩ := lst2 hl'
  obtain ⟨y0, y1, rfl⟩ := lst2 (l := xs) (by simpa using hlen)
  have q73 : Tryd.prog.cellsOf 73 = 1 := by kernel_rfl
  have q9 : Tryd.prog.cellsOf 9 = 1 := by kernel_rfl
  have h0 : DataW.trod enc Tryd.prog W base (fun _ => true) held n 73 [c0] = some y0 := by simpa [q73] using hfi 0 _ rfl
  obtain ⟨v0, e0, _, _⟩ := DataW.trod_int Tryd.underlying73 h0
  have h1 : DataW.trod enc Tryd.prog W base (fun _ => true) held n 9 [c1] = some y1 := by simpa [q9] using hfi 1 _ rfl
  obtain ⟨v1, e1, _, z1⟩ := DataW.trod_string Tryd.underlying9 h1
  simp only [List.cons.injEq, and_true] at e0 e1
  subst e0
  subst e1
  exact ⟨⟨v0, v1⟩, k75_mk W _ , z1⟩
theorem el_83 {H : Type} {enc : TypeId × Value → H} {W : World} {base : Nat} {held : Bool} {fuel : Nat} {cs : List Value} {x : DataW H × List MemPlace} (hl : cs.length = k83.sz) (h : DataW.trod enc Tryd.prog W base (fun _ => true) held fuel 83 cs = some x) : ∃ p, k83.K W p cs ∧ g83 p := by
  obtain ⟨xs, n, _, _, hl', hlen, hfi⟩ := DataW.trod_struct Tryd.underlying83 h
  have hcn : Tryd.prog.cellsOf 83 = 4 := by kernel_rfl
  rw [hcn] at hl'
  obtain ⟨c0, c1, c2, c3, rfl⟩ := lst4 hl'
  obtain ⟨y0, y1, y2, rfl⟩ := lst3 (l := xs) (by simpa using hlen)
  have q4 : Tryd.prog.cellsOf 4 = 1 := by kernel_rfl
  have q75 : Tryd.prog.cellsOf 75 = 2 := by kernel_rfl
  have q9 : Tryd.prog.cellsOf 9 = 1 := by kernel_rfl
  have h0 : DataW.trod enc Tryd.prog W base (fun _ => true) held n 9 [c0] = some y0 := by simpa [q9] using hfi 0 _ rfl
  obtain ⟨v0, e0, _, z0⟩ := DataW.trod_string Tryd.underlying9 h0
  have h1 : DataW.trod enc Tryd.prog W base (fun _ => true) held n 75 [c1, c2] = some y1 := by simpa [q75] using hfi 1 _ rfl
  obtain ⟨v1, K1, z1⟩ := el_75 rfl h1
  have e1 := k75_open K1
  have h2 : DataW.trod enc Tryd.prog W base (fun _ => true) held n 4 [c3] = some y2 := by simpa [q4] using hfi 2 _ rfl
  obtain ⟨v2, e2, _⟩ := DataW.trod_bool Tryd.underlying4 h2
  simp only [List.cons.injEq, and_true] at e0 e1 e2
  subst e0
  obtain ⟨r1_0, r1_1⟩ := e1
  subst r1_0 r1_1
  subst e2
  exact ⟨⟨v0, v1, v2⟩, k83_mk W _ , ⟨z0, z1⟩⟩
theorem el_44 {H : Type} {enc : TypeId × Value → H} {W : World} {base : Nat} {held : Bool} {fuel : Nat} {cs : List Value} {x : DataW H × List MemPlace} (hl : cs.length = k44.sz) (h : DataW.trod enc Tryd.prog W base (fun _ => true) held fuel 44 cs = some x) : ∃ p, k44.K W p cs ∧ g44 p := by
  obtain ⟨xs, n, _, _, hl', hlen, hfi⟩ := DataW.trod_struct Tryd.underlying44 h
  have hcn : Tryd.prog.cellsOf 44 = 9 := by kernel_rfl
  rw [hcn] at hl'
  obtain ⟨c0, c1, c2, c3, c4, c5, c6, c7, c8, rfl⟩ := lst9 hl'
  obtain ⟨y0, y1, y2, y3, y4, y5, y6, y7, y8, rfl⟩ := lst9 (l := xs) (by simpa using hlen)
  have q2 : Tryd.prog.cellsOf 2 = 1 := by kernel_rfl
  have q3 : Tryd.prog.cellsOf 3 = 1 := by kernel_rfl
  have q31 : Tryd.prog.cellsOf 31 = 1 := by kernel_rfl
  have q41 : Tryd.prog.cellsOf 41 = 1 := by kernel_rfl
  have q9 : Tryd.prog.cellsOf 9 = 1 := by kernel_rfl
  have h0 : DataW.trod enc Tryd.prog W base (fun _ => true) held n 31 [c0] = some y0 := by simpa [q31] using hfi 0 _ rfl
  obtain ⟨v0, e0, _, _⟩ := DataW.trod_int Tryd.underlying31 h0
  have h1 : DataW.trod enc Tryd.prog W base (fun _ => true) held n 3 [c1] = some y1 := by simpa [q3] using hfi 1 _ rfl
  obtain ⟨v1, e1, _, _⟩ := DataW.trod_int Tryd.underlying3 h1
  have h2 : DataW.trod enc Tryd.prog W base (fun _ => true) held n 3 [c2] = some y2 := by simpa [q3] using hfi 2 _ rfl
  obtain ⟨v2, e2, _, _⟩ := DataW.trod_int Tryd.underlying3 h2
  have h3 : DataW.trod enc Tryd.prog W base (fun _ => true) held n 3 [c3] = some y3 := by simpa [q3] using hfi 3 _ rfl
  obtain ⟨v3, e3, _, _⟩ := DataW.trod_int Tryd.underlying3 h3
  have h4 : DataW.trod enc Tryd.prog W base (fun _ => true) held n 2 [c4] = some y4 := by simpa [q2] using hfi 4 _ rfl
  obtain ⟨v4, e4, _, _⟩ := DataW.trod_int Tryd.underlying2 h4
  have h5 : DataW.trod enc Tryd.prog W base (fun _ => true) held n 9 [c5] = some y5 := by simpa [q9] using hfi 5 _ rfl
  obtain ⟨v5, e5, _, z5⟩ := DataW.trod_string Tryd.underlying9 h5
  have h6 : DataW.trod enc Tryd.prog W base (fun _ => true) held n 9 [c6] = some y6 := by simpa [q9] using hfi 6 _ rfl
  obtain ⟨v6, e6, _, z6⟩ := DataW.trod_string Tryd.underlying9 h6
  have h7 : DataW.trod enc Tryd.prog W base (fun _ => true) held n 9 [c7] = some y7 := by simpa [q9] using hfi 7 _ rfl
  obtain ⟨v7, e7, _, z7⟩ := DataW.trod_string Tryd.underlying9 h7
  have h8 : DataW.trod enc Tryd.prog W base (fun _ => true) held n 41 [c8] = some y8 := by simpa [q41] using hfi 8 _ rfl
  obtain ⟨A8, v8, cap8, e8, g8, hc8, z8⟩ := rows_open (Kd.int .i64) (fun _ : Int => True) Tryd.underlying41 (by kernel_rfl) (fun a b => el_int a b) h8
  simp only [List.cons.injEq, and_true] at e0 e1 e2 e3 e4 e5 e6 e7
  subst e0
  subst e1
  subst e2
  subst e3
  subst e4
  subst e5
  subst e6
  subst e7
  subst e8
  exact ⟨⟨v0, v1, v2, v3, v4, v5, v6, v7, v8⟩, k44_mk W _ hc8 g8, ⟨z5, z6, z7⟩⟩
theorem el_40 {H : Type} {enc : TypeId × Value → H} {W : World} {base : Nat} {held : Bool} {fuel : Nat} {cs : List Value} {x : DataW H × List MemPlace} (hl : cs.length = k40.sz) (h : DataW.trod enc Tryd.prog W base (fun _ => true) held fuel 40 cs = some x) : ∃ p, k40.K W p cs ∧ g40 p := by
  obtain ⟨xs, n, _, _, hl', hlen, hfi⟩ := DataW.trod_struct Tryd.underlying40 h
  have hcn : Tryd.prog.cellsOf 40 = 6 := by kernel_rfl
  rw [hcn] at hl'
  obtain ⟨c0, c1, c2, c3, c4, c5, rfl⟩ := lst6 hl'
  obtain ⟨y0, y1, y2, y3, y4, y5, rfl⟩ := lst6 (l := xs) (by simpa using hlen)
  have q3 : Tryd.prog.cellsOf 3 = 1 := by kernel_rfl
  have q38 : Tryd.prog.cellsOf 38 = 1 := by kernel_rfl
  have q4 : Tryd.prog.cellsOf 4 = 1 := by kernel_rfl
  have q9 : Tryd.prog.cellsOf 9 = 1 := by kernel_rfl
  have h0 : DataW.trod enc Tryd.prog W base (fun _ => true) held n 9 [c0] = some y0 := by simpa [q9] using hfi 0 _ rfl
  obtain ⟨v0, e0, _, z0⟩ := DataW.trod_string Tryd.underlying9 h0
  have h1 : DataW.trod enc Tryd.prog W base (fun _ => true) held n 9 [c1] = some y1 := by simpa [q9] using hfi 1 _ rfl
  obtain ⟨v1, e1, _, z1⟩ := DataW.trod_string Tryd.underlying9 h1
  have h2 : DataW.trod enc Tryd.prog W base (fun _ => true) held n 4 [c2] = some y2 := by simpa [q4] using hfi 2 _ rfl
  obtain ⟨v2, e2, _⟩ := DataW.trod_bool Tryd.underlying4 h2
  have h3 : DataW.trod enc Tryd.prog W base (fun _ => true) held n 4 [c3] = some y3 := by simpa [q4] using hfi 3 _ rfl
  obtain ⟨v3, e3, _⟩ := DataW.trod_bool Tryd.underlying4 h3
  have h4 : DataW.trod enc Tryd.prog W base (fun _ => true) held n 3 [c4] = some y4 := by simpa [q3] using hfi 4 _ rfl
  obtain ⟨v4, e4, _, _⟩ := DataW.trod_int Tryd.underlying3 h4
  have h5 : DataW.trod enc Tryd.prog W base (fun _ => true) held n 38 [c5] = some y5 := by simpa [q38] using hfi 5 _ rfl
  obtain ⟨A5, v5, cap5, e5, g5, hc5, z5⟩ := rows_open k44 g44 Tryd.underlying38 (by kernel_rfl) (fun a b => el_44 a b) h5
  simp only [List.cons.injEq, and_true] at e0 e1 e2 e3 e4
  subst e0
  subst e1
  subst e2
  subst e3
  subst e4
  subst e5
  exact ⟨⟨v0, v1, v2, v3, v4, v5⟩, k40_mk W _ hc5 g5, ⟨z0, z1, z5⟩⟩
theorem el_37 {H : Type} {enc : TypeId × Value → H} {W : World} {base : Nat} {held : Bool} {fuel : Nat} {cs : List Value} {x : DataW H × List MemPlace} (hl : cs.length = k37.sz) (h : DataW.trod enc Tryd.prog W base (fun _ => true) held fuel 37 cs = some x) : ∃ p, k37.K W p cs ∧ g37 p := by
  obtain ⟨xs, n, _, _, hl', hlen, hfi⟩ := DataW.trod_struct Tryd.underlying37 h
  have hcn : Tryd.prog.cellsOf 37 = 7 := by kernel_rfl
  rw [hcn] at hl'
  obtain ⟨c0, c1, c2, c3, c4, c5, c6, rfl⟩ := lst7 hl'
  obtain ⟨y0, y1, y2, y3, y4, y5, y6, rfl⟩ := lst7 (l := xs) (by simpa using hlen)
  have q23 : Tryd.prog.cellsOf 23 = 1 := by kernel_rfl
  have q34 : Tryd.prog.cellsOf 34 = 1 := by kernel_rfl
  have q35 : Tryd.prog.cellsOf 35 = 1 := by kernel_rfl
  have q4 : Tryd.prog.cellsOf 4 = 1 := by kernel_rfl
  have q9 : Tryd.prog.cellsOf 9 = 1 := by kernel_rfl
  have h0 : DataW.trod enc Tryd.prog W base (fun _ => true) held n 9 [c0] = some y0 := by simpa [q9] using hfi 0 _ rfl
  obtain ⟨v0, e0, _, z0⟩ := DataW.trod_string Tryd.underlying9 h0
  have h1 : DataW.trod enc Tryd.prog W base (fun _ => true) held n 9 [c1] = some y1 := by simpa [q9] using hfi 1 _ rfl
  obtain ⟨v1, e1, _, z1⟩ := DataW.trod_string Tryd.underlying9 h1
  have h2 : DataW.trod enc Tryd.prog W base (fun _ => true) held n 4 [c2] = some y2 := by simpa [q4] using hfi 2 _ rfl
  obtain ⟨v2, e2, _⟩ := DataW.trod_bool Tryd.underlying4 h2
  have h3 : DataW.trod enc Tryd.prog W base (fun _ => true) held n 4 [c3] = some y3 := by simpa [q4] using hfi 3 _ rfl
  obtain ⟨v3, e3, _⟩ := DataW.trod_bool Tryd.underlying4 h3
  have h4 : DataW.trod enc Tryd.prog W base (fun _ => true) held n 23 [c4] = some y4 := by simpa [q23] using hfi 4 _ rfl
  obtain ⟨A4, v4, cap4, e4, g4, hc4, z4⟩ := rows_open Kd.string (fun s : ByteArray => s.size ≤ maxLen) Tryd.underlying23 (by kernel_rfl) (fun a b => el_string a b) h4
  have h5 : DataW.trod enc Tryd.prog W base (fun _ => true) held n 34 [c5] = some y5 := by simpa [q34] using hfi 5 _ rfl
  obtain ⟨A5, v5, cap5, e5, g5, hc5, z5⟩ := rows_open k83 g83 Tryd.underlying34 (by kernel_rfl) (fun a b => el_83 a b) h5
  have h6 : DataW.trod enc Tryd.prog W base (fun _ => true) held n 35 [c6] = some y6 := by simpa [q35] using hfi 6 _ rfl
  obtain ⟨A6, v6, cap6, e6, g6, hc6, z6⟩ := rows_open k40 g40 Tryd.underlying35 (by kernel_rfl) (fun a b => el_40 a b) h6
  simp only [List.cons.injEq, and_true] at e0 e1 e2 e3
  subst e0
  subst e1
  subst e2
  subst e3
  subst e4
  subst e5
  subst e6
  exact ⟨⟨v0, v1, v2, v3, v4, v5, v6⟩, k37_mk W _ hc4 g4 hc5 g5 hc6 g6, ⟨z0, z1, z4, z5, z6⟩⟩
theorem lst5 {α : Type} {l : List α} (h : l.length = 5) : ∃ c0 c1 c2 c3 c4, l = [c0, c1, c2, c3, c4] := by
  match l, h with
  | [c0, c1, c2, c3, c4], _ => exact ⟨c0, c1, c2, c3, c4, rfl⟩
set_option maxRecDepth 100000 in
theorem open_program {H : Type} {enc : TypeId × Value → H} {W : World} {base : Nat} {held : Bool} {r : Reach} {b0 : Nat} {v : Value} {d : DataW H} {p : List MemPlace}
    (hv : Value.okWide Tryd.prog W r b0 27 v) (h : DataW.Trod enc Tryd.prog W base (fun _ => true) held 27 v d p) :
    ∃ (A : Option Addr) (cs : List S37) (c : Nat) (B : Option Addr) (ns : List ByteArray) (d : Nat) (e1 e2 e3 : ByteArray), v = .agg #[.slice A cs.length c, .slice B ns.length d, .string e1, .string e2, .string e3] ∧ Kd.C k37 W A cs.length cs ∧ cs.length ≤ c ∧ Kd.C Kd.string W B ns.length ns ∧ ns.length ≤ d ∧
      (∀ x ∈ cs, g37 x) ∧ (∀ x ∈ ns, x.size ≤ maxLen) ∧ e1.size ≤ maxLen ∧ e2.size ≤ maxLen ∧ e3.size ≤ maxLen := by
  obtain ⟨cs, rfl, hsz⟩ := okWide_struct Tryd.underlying27 hv
  obtain ⟨fuel, hf⟩ := h
  obtain ⟨xs, n, _, _, hl, hlen, hfi⟩ := DataW.trod_struct Tryd.underlying27 hf
  have hc5 : Tryd.prog.cellsOf 27 = 5 := by kernel_rfl
  obtain ⟨cl⟩ := cs
  have hl2 : cl.length = 5 := by
    have : (Array.mk cl).size = 5 := hsz.trans hc5
    simpa using this
  obtain ⟨c0, c1, c2, c3, c4, rfl⟩ := lst5 hl2
  obtain ⟨y0, y1, y2, rfl⟩ := lst3 (l := xs) (by simpa using hlen)
  have q22 : Tryd.prog.cellsOf 22 = 1 := by kernel_rfl
  have q23 : Tryd.prog.cellsOf 23 = 1 := by kernel_rfl
  have q25 : Tryd.prog.cellsOf 25 = 3 := by kernel_rfl
  have h0 : DataW.trod enc Tryd.prog W base (fun _ => true) held n 22 [c0] = some y0 := by simpa [Value.cells, q22] using hfi 0 _ rfl
  have h1 : DataW.trod enc Tryd.prog W base (fun _ => true) held n 23 [c1] = some y1 := by simpa [Value.cells, q23] using hfi 1 _ rfl
  have h2 : DataW.trod enc Tryd.prog W base (fun _ => true) held n 25 [c2, c3, c4] = some y2 := by simpa [Value.cells, q25] using hfi 2 _ rfl
  obtain ⟨A0, l0, cap0, e0, g0, hc0, z0⟩ := rows_open k37 g37 Tryd.underlying22 (by kernel_rfl) (fun a b => el_37 a b) h0
  obtain ⟨A1, l1, cap1, e1, g1, hc1, z1⟩ := rows_open Kd.string (fun s : ByteArray => s.size ≤ maxLen) Tryd.underlying23 (by kernel_rfl) (fun a b => el_string a b) h1
  obtain ⟨xs2, n2, _, _, hl2', hlen2, hfi2⟩ := DataW.trod_struct Tryd.underlying25 h2
  obtain ⟨u0, u1, u2, rfl⟩ := lst3 (l := xs2) (by simpa using hlen2)
  have q9 : Tryd.prog.cellsOf 9 = 1 := by kernel_rfl
  have i0 : DataW.trod enc Tryd.prog W base (fun _ => true) held n2 9 [c2] = some u0 := by simpa [q9] using hfi2 0 _ rfl
  have i1 : DataW.trod enc Tryd.prog W base (fun _ => true) held n2 9 [c3] = some u1 := by simpa [q9] using hfi2 1 _ rfl
  have i2 : DataW.trod enc Tryd.prog W base (fun _ => true) held n2 9 [c4] = some u2 := by simpa [q9] using hfi2 2 _ rfl
  obtain ⟨s0, f0, _, w0⟩ := DataW.trod_string Tryd.underlying9 i0
  obtain ⟨s1, f1, _, w1⟩ := DataW.trod_string Tryd.underlying9 i1
  obtain ⟨s2, f2, _, w2⟩ := DataW.trod_string Tryd.underlying9 i2
  simp only [List.cons.injEq, and_true] at f0 f1 f2
  subst e0 e1 f0 f1 f2
  exact ⟨A0, l0, cap0, A1, l1, cap1, s0, s1, s2, rfl, g0, hc0, g1, hc1, z0, z1, w0, w1, w2⟩
end Go.Proofs.YtmamaijiphdggaaDoor.Given
