/- The inner iterator op.registers: which registers come, whatever the loop's body. -/
import Derived.RangeFuncNested
import Derived.RangeFuncBound
import Derived.RangeFuncCalls
import Derived.RangeFuncLeaves
import Derived.RangeFuncFrom
import Derived.Shelf.Abstract
import Derived.Shelf.RegionOpen
import Derived.WalkKit
import Derived.OwnWalkIn
import Derived.TacticsInMore
import Derived.LoopNIn
import Derived.LoopIn
import Derived.Test.YtmamaijiphdggaaDoorNamed
namespace Go.Proofs.YtmamaijiphdggaaDoor.Given
set_option linter.unusedVariables false
set_option linter.unusedSimpArgs false
open Go.RowKit Go.Lib Go.Shelf
open Go.Proofs.YtmamaijiphdggaaDoorW.PrintWords
attribute [local go_sem] Oper.semAt_some

/-- What is cells stays. -/
def Kc (W W' : World) : Prop := ∀ (k : Nat) (cs : Array Value) (t : TypeId) (m : Nat × Nat), W.heap[k]? = some (Obj.cells cs t m) → W'.heap[k]? = some (Obj.cells cs t m)
theorem Kc.refl (W : World) : Kc W W := fun _ _ _ _ h => h
theorem Kc.trans {A B C : World} (h : Kc A B) (k : Kc B C) : Kc A C := fun _ _ _ _ hh => k _ _ _ _ (h _ _ _ _ hh)
theorem Kc.grown {W W' : World} (h : W.grownBy W' none) : Kc W W' := fun k _ _ _ hh => (h.block k (Array.getElem?_eq_some_iff.1 hh).1 (by simp)).trans hh
theorem Kc.putObj (W : World) (l : Nat) (o o' : Obj) (h : W.heap[l]? = some o) (hc : o.isCells = false) : Kc W (W.putObj l o') := by
  intro k cs t m hk
  have hne : k ≠ l := by
    rintro rfl
    rw [hk] at h
    cases h
    simp [Obj.isCells] at hc
  exact ((grownBy_putObj' W l o').block k (Array.getElem?_eq_some_iff.1 hk).1 (fun e => hne (Option.some.inj e))).trans hk
theorem Kc.cell {W W' : World} (h : Kc W W') {p : Addr} {v : Value} (hc : W.cell? p = some v) : W'.cell? p = some v := by
  unfold World.cell? at hc ⊢
  cases hk : W.heap[p.block]? with
  | none => rw [hk] at hc; simp at hc
  | some o =>
    cases o with
    | cells cs t m => rw [hk] at hc; rw [h _ _ _ _ hk]; exact hc
    | _ => rw [hk] at hc; simp at hc
theorem Kc.ibox {W W' : World} (h : Kc W W') {n : Nat} {o a b c k : Int} {cl nm ds : ByteArray} {A : Option Addr} {len cap : Nat} (hI : IBox W n o a b c k cl nm ds A len cap) : IBox W' n o a b c k cl nm ds A len cap := ⟨h _ _ _ _ hI.heap⟩

def oneIf (b : Bool) (x : Int) : List Int := if b then [x] else []
/-- What comes before the k-th of the three letters. -/
def pfx (qa qb qc : Bool) (a b c : Int) : Nat → List Int
  | 0 => []
  | 1 => oneIf qa a
  | 2 => oneIf qa a ++ oneIf qb b
  | _ => oneIf qa a ++ oneIf qb b ++ oneIf qc c
/-- A row of ints in cells. -/
def Row (W : World) (A : Option Addr) (zs : List Int) : Prop := ∀ j, j < zs.length → ∃ ad, A = some ad ∧ W.cell? (ad.add j) = some (.int .i64 (zs[j]?.getD 0))
theorem Kc.row {W W' : World} (h : Kc W W') {A : Option Addr} {zs : List Int} (hr : Row W A zs) : Row W' A zs := fun j hj => by
  obtain ⟨ad, e, hc⟩ := hr j hj
  exact ⟨ad, e, h.cell hc⟩
def litO (a b c : Int) : Obj := .cells #[.string ⟨#[97]⟩, .int .i64 a, .string ⟨#[98]⟩, .int .i64 b, .string ⟨#[99]⟩, .int .i64 c] 98 (0, 0)

set_option maxRecDepth 100000 in
set_option maxHeartbeats 8000000 in
theorem regs_in (n : Nat) (hn : 1 ≤ n) (l Bi : Nat) (o a b c k' : Int) (cl nm ds : ByteArray) (A : Option Addr) (cap : Nat) (zs : List Int) (hz : zs.length ≤ 1000000) (qa qb qc : Bool) (N : Nat)
    (hN : (pfx qa qb qc a b c 3).length + zs.length ≤ N)
    (ha : ∀ w, Calls Tryd.prog 40 #[.string (shapeB o), .string ⟨#[97]⟩] w fun e w' => e = .returned (.bool qa) ∧ w.grownBy w' none)
    (hb : ∀ w, Calls Tryd.prog 40 #[.string (shapeB o), .string ⟨#[98]⟩] w fun e w' => e = .returned (.bool qb) ∧ w.grownBy w' none)
    (hc : ∀ w, Calls Tryd.prog 40 #[.string (shapeB o), .string ⟨#[99]⟩] w fun e w' => e = .returned (.bool qc) ∧ w.grownBy w' none)
    (J Jx : List Int → World → Prop) (W : World) (hJ : AbidesFrom W.heap.size J)
    (hY : ∀ pre x W1, J pre W1 → pre.length < N → YieldAt Fence.wide (n - 1) Tryd.prog l #[.int .i64 x] W1 fun e W' =>
      (e = .returned (.bool true) ∧ J (pre ++ [x]) W' ∧ Kc W1 W') ∨ (e = .returned (.bool false) ∧ Jx (pre ++ [x]) W'))
    (hG : GW W) (hI : IBox W Bi o a b c k' cl nm ds A zs.length cap) (hR : Row W A zs) (h0 : J [] W) :
    CallsIn Fence.wide n Tryd.prog 75 #[.func (.yield l) #[] #[], .pointer (some ⟨Bi, 0, none⟩)] W fun e W' => (∃ v, e = .returned v) ∧
      ((∃ xs, xs = pfx qa qb qc a b c 3 ++ zs ∧ J xs W') ∨ (∃ pre, pre <+: pfx qa qb qc a b c 3 ++ zs ∧ Jx pre W')) := by
  have i0 := hI.c0
  have i1 := hI.c1
  have i2 := hI.c2
  have i3 := hI.c3
  refine callsIn_of_wp Tryd.func75 rfl trivial ?_ rfl
  simp only [Tryd.ntmps75, List.size_toArray, List.length_cons, List.length_nil, Nat.reduceAdd, Nat.reduceSub, Array.replicate_succ, Array.replicate_zero, List.push_toArray, List.append_toArray, List.nil_append, List.cons_append]
  gi_wp2_with (first
    | (refine ⟨trivial, ?_⟩; gi_at_call 10; refine (callsIn_wide.2 (Shape_calls _ _ hG)).mono ?_; rintro e w' ⟨rfl, rfl⟩))
  gi_loopw [22] (fun i wr => ∃ k : Nat, k ≤ 3 ∧ i = .int .i64 k ∧ J (pfx qa qb qc a b c k) wr ∧ IBox wr Bi o a b c k' cl nm ds A zs.length cap ∧ Row wr A zs ∧ wr.heap[W.heap.size]? = some (litO a b c) ∧ W.heap.size ≤ wr.heap.size)
    (fun i _ => 3 - (RowKit.intOf i).toNat)
  case atStart => exact ⟨0, by omega, by rfl, hJ _ _ _ none h0 (grownBy_alloc _ _ _) (fun r e => by cases e), hI.grown (grownBy_alloc _ _ _), (Kc.grown (grownBy_alloc _ _ _)).row hR, al_new W _, by rw [al_size]; omega⟩
  case round =>
    obtain ⟨k, hk, rfl, hJs, hIr, hRr, hL, hsz⟩ := hrel
    obtain rfl | rfl | rfl | rfl : k = 0 ∨ k = 1 ∨ k = 2 ∨ k = 3 := by omega
    · have z0 : wr.cell? ⟨W.heap.size, 0, none⟩ = some (.string ⟨#[97]⟩) := by simp [World.cell?, hL, litO]
      have z1 : wr.cell? ⟨W.heap.size, 1, none⟩ = some (.int .i64 a) := by simp [World.cell?, hL, litO]
      have hxb : (wr.alloc (.cells #[.string ⟨#[97]⟩, .int .i64 a] 98)).cell? ⟨wr.heap.size, 1, none⟩ = some (.int .i64 a) := by unfold World.cell?; rw [al_new]; rfl
      cases qa with
      | false =>
        gi_wp2_with (first
          | (refine ⟨trivial, ?_⟩; gi_at_call 40; refine (callsIn_wide.2 (ha _)).mono ?_; rintro e w2 ⟨rfl, hg⟩
             have hg2 := grownBy_trans (grownBy_alloc wr (.cells #[.string ⟨#[97]⟩, .int .i64 a] 98) none) hg
             have hJ2 := hJ _ _ _ none hJs hg2 (fun r e => by cases e)
             have hI2 := hIr.grown hg2
             have hR2 := (Kc.grown hg2).row hRr
             have hL2 := Kc.grown hg2 _ _ _ _ hL
             have hs2 := Nat.le_trans hsz hg2.size))
        refine ⟨fun _ h => (by cases h), ?_⟩
        gi_wp2
        go_roundw
        case rel => exact ⟨1, by omega, by rfl, by simpa [pfx, oneIf] using hJ2, hI2, hR2, hL2, hs2⟩
        case measure => simp [RowKit.intOf]
      | true =>
        gi_wp2_with (first
          | (refine ⟨trivial, ?_⟩; gi_at_call 40; refine (callsIn_wide.2 (ha _)).mono ?_; rintro e w2 ⟨rfl, hg⟩
             have hx2 := (Kc.grown hg).cell hxb
             have hg2 := grownBy_trans (grownBy_alloc wr (.cells #[.string ⟨#[97]⟩, .int .i64 a] 98) none) hg
             have hJ2 := hJ _ _ _ none hJs hg2 (fun r e => by cases e)
             have hI2 := hIr.grown hg2
             have hR2 := (Kc.grown hg2).row hRr
             have hL2 := Kc.grown hg2 _ _ _ _ hL
             have hs2 := Nat.le_trans hsz hg2.size
             obtain ⟨fn, tmps, assign, body, hy, hRd⟩ := hY _ a w2 hJ2 (by have h_ := hN; simp only [pfx, List.length_append, List.length_nil, oneIf, if_true, List.length_singleton] at h_ ⊢; omega)))
        refine hRd.mono ?_
        rintro e W3 (⟨rfl, hJ3, hk3⟩ | ⟨rfl, hJx3⟩)
        · gi_wp2
          go_roundw
          case rel => exact ⟨1, by omega, by rfl, by simpa [pfx, oneIf] using hJ3, hk3.ibox hI2, hk3.row hR2, hk3 _ _ _ _ hL2, Nat.le_of_lt (Array.getElem?_eq_some_iff.1 (hk3 _ _ _ _ hL2)).1⟩
          case measure => simp [RowKit.intOf]
        · gi_wp2
          refine bodyPost_ret (results_none rfl _ _ _) rfl ?_
          exact ⟨⟨_, rfl⟩, .inr ⟨_, ⟨oneIf qb b ++ oneIf qc c ++ zs, by simp [pfx, oneIf]⟩, hJx3⟩⟩
    · have z0 : wr.cell? ⟨W.heap.size, 2, none⟩ = some (.string ⟨#[98]⟩) := by simp [World.cell?, hL, litO]
      have z1 : wr.cell? ⟨W.heap.size, 3, none⟩ = some (.int .i64 b) := by simp [World.cell?, hL, litO]
      have hxb : (wr.alloc (.cells #[.string ⟨#[98]⟩, .int .i64 b] 98)).cell? ⟨wr.heap.size, 1, none⟩ = some (.int .i64 b) := by unfold World.cell?; rw [al_new]; rfl
      cases qb with
      | false =>
        gi_wp2_with (first
          | (refine ⟨trivial, ?_⟩; gi_at_call 40; refine (callsIn_wide.2 (hb _)).mono ?_; rintro e w2 ⟨rfl, hg⟩
             have hg2 := grownBy_trans (grownBy_alloc wr (.cells #[.string ⟨#[98]⟩, .int .i64 b] 98) none) hg
             have hJ2 := hJ _ _ _ none hJs hg2 (fun r e => by cases e)
             have hI2 := hIr.grown hg2
             have hR2 := (Kc.grown hg2).row hRr
             have hL2 := Kc.grown hg2 _ _ _ _ hL
             have hs2 := Nat.le_trans hsz hg2.size))
        refine ⟨fun _ h => (by cases h), ?_⟩
        gi_wp2
        go_roundw
        case rel => exact ⟨2, by omega, by rfl, by simpa [pfx, oneIf] using hJ2, hI2, hR2, hL2, hs2⟩
        case measure => simp [RowKit.intOf]
      | true =>
        gi_wp2_with (first
          | (refine ⟨trivial, ?_⟩; gi_at_call 40; refine (callsIn_wide.2 (hb _)).mono ?_; rintro e w2 ⟨rfl, hg⟩
             have hx2 := (Kc.grown hg).cell hxb
             have hg2 := grownBy_trans (grownBy_alloc wr (.cells #[.string ⟨#[98]⟩, .int .i64 b] 98) none) hg
             have hJ2 := hJ _ _ _ none hJs hg2 (fun r e => by cases e)
             have hI2 := hIr.grown hg2
             have hR2 := (Kc.grown hg2).row hRr
             have hL2 := Kc.grown hg2 _ _ _ _ hL
             have hs2 := Nat.le_trans hsz hg2.size
             obtain ⟨fn, tmps, assign, body, hy, hRd⟩ := hY _ b w2 hJ2 (by have h_ := hN; simp only [pfx, List.length_append, List.length_nil, oneIf, if_true, List.length_singleton] at h_ ⊢; omega)))
        refine hRd.mono ?_
        rintro e W3 (⟨rfl, hJ3, hk3⟩ | ⟨rfl, hJx3⟩)
        · gi_wp2
          go_roundw
          case rel => exact ⟨2, by omega, by rfl, by simpa [pfx, oneIf] using hJ3, hk3.ibox hI2, hk3.row hR2, hk3 _ _ _ _ hL2, Nat.le_of_lt (Array.getElem?_eq_some_iff.1 (hk3 _ _ _ _ hL2)).1⟩
          case measure => simp [RowKit.intOf]
        · gi_wp2
          refine bodyPost_ret (results_none rfl _ _ _) rfl ?_
          exact ⟨⟨_, rfl⟩, .inr ⟨_, ⟨oneIf qc c ++ zs, by simp [pfx, oneIf]⟩, hJx3⟩⟩
    · have z0 : wr.cell? ⟨W.heap.size, 4, none⟩ = some (.string ⟨#[99]⟩) := by simp [World.cell?, hL, litO]
      have z1 : wr.cell? ⟨W.heap.size, 5, none⟩ = some (.int .i64 c) := by simp [World.cell?, hL, litO]
      have hxb : (wr.alloc (.cells #[.string ⟨#[99]⟩, .int .i64 c] 98)).cell? ⟨wr.heap.size, 1, none⟩ = some (.int .i64 c) := by unfold World.cell?; rw [al_new]; rfl
      cases qc with
      | false =>
        gi_wp2_with (first
          | (refine ⟨trivial, ?_⟩; gi_at_call 40; refine (callsIn_wide.2 (hc _)).mono ?_; rintro e w2 ⟨rfl, hg⟩
             have hg2 := grownBy_trans (grownBy_alloc wr (.cells #[.string ⟨#[99]⟩, .int .i64 c] 98) none) hg
             have hJ2 := hJ _ _ _ none hJs hg2 (fun r e => by cases e)
             have hI2 := hIr.grown hg2
             have hR2 := (Kc.grown hg2).row hRr
             have hL2 := Kc.grown hg2 _ _ _ _ hL
             have hs2 := Nat.le_trans hsz hg2.size))
        refine ⟨fun _ h => (by cases h), ?_⟩
        gi_wp2
        go_roundw
        case rel => exact ⟨3, by omega, by rfl, by simpa [pfx, oneIf] using hJ2, hI2, hR2, hL2, hs2⟩
        case measure => simp [RowKit.intOf]
      | true =>
        gi_wp2_with (first
          | (refine ⟨trivial, ?_⟩; gi_at_call 40; refine (callsIn_wide.2 (hc _)).mono ?_; rintro e w2 ⟨rfl, hg⟩
             have hx2 := (Kc.grown hg).cell hxb
             have hg2 := grownBy_trans (grownBy_alloc wr (.cells #[.string ⟨#[99]⟩, .int .i64 c] 98) none) hg
             have hJ2 := hJ _ _ _ none hJs hg2 (fun r e => by cases e)
             have hI2 := hIr.grown hg2
             have hR2 := (Kc.grown hg2).row hRr
             have hL2 := Kc.grown hg2 _ _ _ _ hL
             have hs2 := Nat.le_trans hsz hg2.size
             obtain ⟨fn, tmps, assign, body, hy, hRd⟩ := hY _ c w2 hJ2 (by have h_ := hN; simp only [pfx, List.length_append, List.length_nil, oneIf, if_true, List.length_singleton] at h_ ⊢; omega)))
        refine hRd.mono ?_
        rintro e W3 (⟨rfl, hJ3, hk3⟩ | ⟨rfl, hJx3⟩)
        · gi_wp2
          go_roundw
          case rel => exact ⟨3, by omega, by rfl, by simpa [pfx, oneIf] using hJ3, hk3.ibox hI2, hk3.row hR2, hk3 _ _ _ _ hL2, Nat.le_of_lt (Array.getElem?_eq_some_iff.1 (hk3 _ _ _ _ hL2)).1⟩
          case measure => simp [RowKit.intOf]
        · gi_wp2
          refine bodyPost_ret (results_none rfl _ _ _) rfl ?_
          exact ⟨⟨_, rfl⟩, .inr ⟨_, ⟨zs, by simp [pfx, oneIf]⟩, hJx3⟩⟩
    · have i8 := hIr.c8
      gi_wp2
      rw [show ((3 : Nat) : Int) = 3 from rfl]
      gi_loopw [41] (fun i wr => ∃ j : Nat, j ≤ zs.length ∧ i = .int .i64 j ∧ J (pfx qa qb qc a b c 3 ++ zs.take j) wr ∧ Row wr A zs)
        (fun i _ => zs.length - (RowKit.intOf i).toNat)
      case atStart => exact ⟨0, by omega, by rfl, by simpa using hJs, hRr⟩
      case round =>
        obtain ⟨j, hj, rfl, hJ4, hR4⟩ := hrel
        by_cases hlt : j < zs.length
        · obtain ⟨ad, rfl, hcx⟩ := hR4 j hlt
          have hx : Hid (zs.take (j + 1) = zs.take j ++ [zs[j]?.getD 0]) := hid (by rw [List.take_add_one]; congr 1; rw [List.getElem?_eq_getElem hlt]; rfl)
          generalize zs[j]?.getD 0 = x at hcx hx
          obtain ⟨fn, tmps, assign, body, hy, hRd⟩ := hY _ x wr hJ4 (by have h_ := hN; simp only [List.length_append, List.length_take] at h_ ⊢; omega)
          gi_wp2
          refine hRd.mono ?_
          rintro e W3 (⟨rfl, hJ3, hk3⟩ | ⟨rfl, hJx3⟩)
          · gi_wp2
            go_roundw
            case rel => exact ⟨j + 1, by omega, by simp, by rw [hx.out, ← List.append_assoc]; exact hJ3, hk3.row hR4⟩
            case measure => simp [RowKit.intOf]; omega
          · gi_wp2
            refine bodyPost_ret (results_none rfl _ _ _) rfl ?_
            exact ⟨⟨_, rfl⟩, .inr ⟨_, ⟨zs.drop (j + 1), by rw [List.append_assoc, List.append_assoc, ← List.append_assoc (zs.take j), ← hx.out, List.take_append_drop]⟩, hJx3⟩⟩
        · obtain rfl : j = zs.length := by omega
          gi_wp2
          go_end0
          exact ⟨⟨_, rfl⟩, .inl ⟨_, rfl, by simpa using hJ4⟩⟩
end Go.Proofs.YtmamaijiphdggaaDoor.Given
