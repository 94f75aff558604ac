/- norm.gather.some: strings that are gathered. -/
import Derived.Test.YtmamaijiphdggaaDoorRightD
import Derived.Test.YtmamaijiphdggaaDoorMoreB
namespace Go.Proofs.YtmamaijiphdggaaDoor.Given
set_option linter.unusedVariables false
set_option linter.unusedSimpArgs false
open Go.RowKit Go.Lib
open Go.Proofs.YtmamaijiphdggaaDoorW.PrintWords

theorem ad_block (a : Addr) (i : Nat) : (a.add i).block = a.block := by unfold Addr.add; split <;> rfl
/-- A gatherer (block g, made since w0) holds the strings xs; v is its slice. -/
structure Gat (w0 : World) (g : Nat) (v : Value) (xs : List ByteArray) (w : World) : Prop where
  below : Below w0.heap.size w0 w
  ge : w0.heap.size ≤ g
  hg : w.heap[g]? = some (.cells #[v] 64 (0, 0))
  row : Kd.string.R 9 w w0.heap.size (fun k => k ≠ g) v xs
/-- What gathering leaves as it was. -/
structure Frm (g : Nat) (v v' : Value) (w w' : World) : Prop where
  keep : KeepBut w w' g v.ownBlock
  own : v'.ownBlock = v.ownBlock ∨ ∃ b, v'.ownBlock = some b ∧ w.heap.size ≤ b
theorem Frm.refl (g : Nat) (v : Value) (w : World) : Frm g v v w w := ⟨⟨Nat.le_refl _, fun _ _ _ _ => rfl⟩, .inl rfl⟩
theorem Frm.trans {g : Nat} {v v1 v2 : Value} {w w1 w2 : World} (h : Frm g v v1 w w1) (k : Frm g v1 v2 w1 w2) : Frm g v v2 w w2 :=
  ⟨h.keep.trans k.keep h.own, by
    rcases k.own with e | ⟨b, e, hb⟩
    · rw [e]; exact h.own
    · exact .inr ⟨b, e, Nat.le_trans h.keep.1 hb⟩⟩
theorem Frm.of_below {g : Nat} {v : Value} {w w' : World} (h : Below w.heap.size w w') : Frm g v v w w' := ⟨⟨h.size, fun k hk _ _ => h.block k hk⟩, .inl rfl⟩
theorem Gat.below' {w0 : World} {g : Nat} {v : Value} {xs : List ByteArray} {w w' : World} (h : Gat w0 g v xs w) (hb : Below w.heap.size w w') : Gat w0 g v xs w' :=
  ⟨h.below.trans (hb.mono h.below.size), h.ge, (hb.block g (blk_lt h.hg)).trans h.hg, Kd.R_below h.row hb⟩
theorem Gat.alloc {w0 : World} {g : Nat} {v : Value} {xs : List ByteArray} {w : World} (h : Gat w0 g v xs w) (o : Obj) : Gat w0 g v xs (w.alloc o) := h.below' ((Below.refl _ _).alloc (Nat.le_refl _) o)
theorem Gat.drew {w0 : World} {g : Nat} {v : Value} {xs : List ByteArray} {w : World} (h : Gat w0 g v xs w) : Gat w0 g v xs w.drew := h.below' (below_drew (Below.refl _ _))
theorem Gat.c0 {w0 : World} {g : Nat} {v : Value} {xs : List ByteArray} {w : World} (h : Gat w0 g v xs w) : w.cell? ⟨g, 0, none⟩ = some v := (blk_cell h.hg 0).trans rfl
theorem Gat.fz {w0 : World} {g : Nat} {v : Value} {xs : List ByteArray} {w : World} (h : Gat w0 g v xs w) : w.frozen? ⟨g, 0, none⟩ = false := blk_frozen h.hg 0
theorem Gat.away {w0 : World} {g : Nat} {v : Value} {xs : List ByteArray} {w : World} (h : Gat w0 g v xs w) : some g ≠ v.ownBlock := Kd.R_away h.row (fun _ hk => hk)
/-- What an append leaves, ahead of the store and behind it. -/
theorem Gat.push {w0 : World} {g : Nat} {v : Value} {xs : List ByteArray} {W : World} (h : Gat w0 g v xs W) {v1 : Value} {zs : List ByteArray} {w1 : World}
    (hr : Kd.string.R 9 w1 w0.heap.size (fun k => k ≠ g) v1 zs) (hb : Below w0.heap.size w0 w1) (hw : W.grownBy w1 v.ownBlock) (hat : v1.ownBlock = v.ownBlock ∨ ∃ b, v1.ownBlock = some b ∧ W.heap.size ≤ b) :
    w1.heap[g]? = some (.cells #[v] 64 (0, 0)) ∧ Gat w0 g v1 zs (w1.setCell ⟨g, 0, none⟩ v1) ∧ Frm g v v1 W (w1.setCell ⟨g, 0, none⟩ v1) := by
  have h1 : w1.heap[g]? = some (.cells #[v] 64 (0, 0)) := blk_grown h.hg hw h.away
  refine ⟨h1, ⟨hb.setCell h.ge _, h.ge, blk_put h1 0 v1 rfl, Kd.R_far (p := ⟨g, 0, none⟩) hr (fun _ hk => hk) _⟩, ⟨⟨?_, fun k hk hg hn => ?_⟩, hat⟩⟩
  · have : (w1.setCell ⟨g, 0, none⟩ v1).heap.size = w1.heap.size := by simp [World.setCell]
    rw [this]
    exact hw.size
  · exact (Below.heap_setCell w1 _ _ k hg).trans (hw.block k hk hn)
theorem Frm.cell {g : Nat} {v v' : Value} {w w' : World} (h : Frm g v v' w w') {a : Addr} (h1 : a.block < w.heap.size) (h2 : a.block ≠ g) (h3 : some a.block ≠ v.ownBlock) : w'.cell? a = w.cell? a :=
  World.cell?_of_block (h.keep.2 _ h1 h2 h3)

theorem Tryd.info9 : (Tryd.prog.info? 9).map (fun i => (i.zero, i.size, i.bytes)) = some (some (.string ⟨#[]⟩), 1, 16) := by kernel_rfl
def nonE (s : ByteArray) : Bool := !(s.toList == ([] : List UInt8))
/-- Strings in a row are made strings. -/
theorem str_KM (W : World) (base : Nat) (x : ByteArray) (cs : List Value) (h : Kd.string.K W x cs) : Kd.string.M W base (fun _ => False) x cs := h

/-- A box of strings, read as a row. -/
theorem str_row {W : World} {b : Nat} {vs : List ByteArray} (h : W.heap[b]? = some (.cells (vs.map Value.string).toArray 9 (0, 0))) (hl : vs.length ≤ 9223372036854775807) : Kd.string.C W (some ⟨b, 0, none⟩) vs.length vs := by
  refine ⟨rfl, hl, fun _ => ⟨⟨b, 0, none⟩, rfl, fun j p hj => ⟨[.string p], rfl, rfl, fun i u hu => ?_⟩⟩⟩
  cases i with
  | zero =>
    have hu' : Value.string p = u := by simpa using hu
    subst hu'
    have e : (⟨b, 0, none⟩ : Addr).add (j * Kd.string.sz + 0) = ⟨b, j, none⟩ := by
      have : Kd.string.sz = 1 := rfl
      cases j <;> simp [Addr.add, this]
    rw [e, blk_cell h]
    simp [hj]
  | succ i => simp at hu
theorem str_box (w : World) (vs : List ByteArray) (hl : vs.length ≤ 9223372036854775807 := by simp) : Kd.string.C (w.alloc (.cells (vs.map Value.string).toArray 9)) (some ⟨w.heap.size, 0, none⟩) vs.length vs := str_row (al_new' w _) hl

set_option maxRecDepth 100000 in
set_option maxHeartbeats 1000000 in
theorem some_calls {w0 w : World} {g : Nat} {v : Value} {xs : List ByteArray} (h : Gat w0 g v xs w) (ys : List ByteArray) (A : Option Addr) (c : Nat) (hy : Kd.C Kd.string w A ys.length ys)
    (hA : ∀ ad, A = some ad → ad.block < w.heap.size ∧ ad.block ≠ g ∧ some ad.block ≠ v.ownBlock) (hn : xs.length + ys.length ≤ 1000000000) :
    Calls Tryd.prog 71 #[.pointer (some ⟨g, 0, none⟩), .slice A ys.length c] w fun e w' => e = .returned (.tuple #[]) ∧ ∃ v', Gat w0 g v' (xs ++ ys.filter nonE) w' ∧ Frm g v v' w w' := by
  have H := hid h
  have HY := hid hy
  have HA := hid hA
  have hm : ys.length ≤ 1000000000 := by omega
  have HN := hid hn
  clear h hy hA hn
  go_enter Tryd.func71, Tryd.ntmps71
  go_wp2
  go_loopg [8] ys.length (fun gk z wr => ∃ (i : Nat) (vi : Value), i ≤ ys.length ∧ z = .int .i64 i ∧ gk = ys.length - i ∧ Hid (Gat w0 g vi (xs ++ (ys.take i).filter nonE) wr ∧ Frm g v vi w wr))
  case atStart => exact ⟨0, v, Nat.zero_le _, rfl, by omega, hid ⟨by simpa using H.out, Frm.refl _ _ _⟩⟩
  case round =>
    obtain ⟨i, vi, hi, rfl, rfl, HR⟩ := hrel
    by_cases hlt : i < ys.length
    · obtain ⟨ad, eA, x0⟩ := at_T9 HY.out (i : Int) (by omega) (by omega)
      have er : rd_T9 ys (i : Int) = ys[i] := by simp [rd_T9, List.getD, List.getElem?_eq_getElem hlt]
      obtain ⟨k1, k2, k3⟩ := HA.out ad eA
      subst eA
      rw [er, Int.toNat_natCast, Nat.mul_one] at x0
      replace x0 := (HR.out.2.cell (a := ad.add i) (by rw [ad_block]; exact k1) (by rw [ad_block]; exact k2) (by rw [ad_block]; exact k3)).trans x0
      have et : (ys.take (i + 1)).filter nonE = (ys.take i).filter nonE ++ (if nonE ys[i] then [ys[i]] else []) := by
        rw [List.take_succ_eq_append_getElem hlt, List.filter_append]
        by_cases hq : nonE ys[i] = true <;> simp [hq]
      have hle : ((ys.take i).filter nonE).length ≤ i := Nat.le_trans (List.length_filter_le _ _) (by simp; omega)
      generalize ys[i] = s at *
      clear er k1 k2 k3
      have ne0 : nonE s = !(s.toList == ([] : List UInt8)) := rfl
      cases hq : (s.toList == ([] : List UInt8)) with
      | true =>
        rw [ne0, hq] at et
        have HE := hid et
        clear et ne0
        go_wp2
        go_roundg (ys.length - (i + 1))
        case rel => exact ⟨i + 1, vi, hlt, by go_num, rfl, hid (by rw [HE.out]; simpa using HR.out)⟩
        case measure => omega
      | false =>
        rw [ne0, hq] at et
        have HE := hid et
        clear et ne0
        have b0 := HR.out.1.c0
        have bz := HR.out.1.fz
        have hg1 : Gat w0 g vi (xs ++ (ys.take i).filter nonE) (wr.alloc (.cells #[.string s] 9)) := HR.out.1.alloc _
        go_wp2_with (at_builtin
                     refine Kd.R_append_rows Kd.string (w0 := w0) (W := wr.alloc (.cells #[.string s] 9)) w0.heap.size rfl (.tmp 18) (.tmp 20) 23 9 (.string ⟨#[]⟩) 16 rfl Tryd.underlying23 Tryd.info9 rfl (by decide) (by omega) vi (xs ++ (ys.take i).filter nonE) [s] (some ⟨wr.heap.size, 0, none⟩) 1 1 (fun k => k ≠ g) (fun _ => False) rfl (by first | (go_simp; done) | (go_simp; rfl)) hg1.row ?aR (str_KM _ _) (fun _ hk => hk.elim) ?aF hg1.below ?aS ?aL ?_
                     case aR => exact str_box _ [s]
                     case aF =>
                       intro z hz
                       have := blk_lt hg1.hg
                       omega
                     case aS => exact hg1.below.size
                     case aL => have := HN.out; simp; omega
                     intro v1 w1 ho1 hb1 hg1' hat1
                     have HP := hid (hg1.push ho1 hb1 hg1' hat1)
                     have c1 := (blk_cell HP.out.1 0).trans rfl
                     have z1 := blk_frozen HP.out.1 0
                     obtain ⟨A5, cap5, hv5, _, _⟩ := Kd.R_reads ho1
                     clear ho1 hb1 hg1' hat1
                     generalize hl5 : (xs ++ (ys.take i).filter nonE ++ [s]).length = m5 at hv5
                     clear hl5
                     subst hv5)
        go_roundg (ys.length - (i + 1))
        case rel => exact ⟨i + 1, _, hlt, by go_num, rfl, hid ⟨by rw [HE.out, ← List.append_assoc]; simpa using HP.out.2.1, (HR.out.2.trans (Frm.of_below (below_alloc (Below.refl _ _) _))).trans HP.out.2.2⟩⟩
        case measure => omega
    · have HE : Hid (ys.take i = ys) := hid (List.take_of_length_le (by omega))
      go_wp2
      go_end0
      exact ⟨rfl, vi, by rw [← HE.out]; exact HR.out.1, HR.out.2⟩
end Go.Proofs.YtmamaijiphdggaaDoor.Given
