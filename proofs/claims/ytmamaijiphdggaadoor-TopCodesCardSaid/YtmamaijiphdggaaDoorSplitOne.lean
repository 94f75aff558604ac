/- The inner closure of kind.Split: it reads a descriptor into two variables of its maker's. -/
import Derived.Test.YtmamaijiphdggaaDoorSplitSpec
import Derived.Test.YtmamaijiphdggaaDoorMoreVocab
import Derived.Deep.LoopGhost
namespace Go.Proofs.YtmamaijiphdggaaDoor.Given
set_option linter.unusedVariables false
set_option linter.unusedSimpArgs false
open Go.RowKit Go.Lib
open Go.Proofs.YtmamaijiphdggaaDoorW.PrintWords

def kp : Kd (Int × ByteArray) := Kd.pair (Kd.int .i64) Kd.string
theorem kp_info : (Tryd.prog.info? 75).map (fun i => (i.zero, i.size, i.bytes)) = some (some (.agg #[(.int .i64 0), (.string ⟨#[]⟩)]), 2, 24) := by kernel_rfl
theorem kp_mkM (w : World) (base : Nat) (ok : Nat → Prop) (k : Int) (c : ByteArray) : kp.M w base ok (k, c) [.int .i64 k, .string c] := ⟨[.int .i64 k], [.string c], rfl, rfl, rfl⟩

/-- The maker's variables, and the row that has been made. -/
structure Mem (B a b c x g : Nat) (s : ByteArray) (v : Value) (k : Int) (q : ByteArray) (l : List (Int × ByteArray)) (w0 w : World) : Prop where
  base : B ≤ w0.heap.size
  below : Below B w0 w
  ha : w.heap[a]? = some (.cells #[.string s] 9 (0, 0))
  hb : w.heap[b]? = some (.cells #[v] 72 (0, 0))
  hc : w.heap[c]? = some (.cells #[.int .i64 k, .string q] 75 (0, 0))
  hx : w.heap[x]? = some boxE
  row : kp.R 75 w B (fun n => n ≠ a ∧ n ≠ b ∧ n ≠ c ∧ n ≠ x ∧ n ≠ g) v l
section
variable {B a b c x g : Nat} {s : ByteArray} {v : Value} {k : Int} {q : ByteArray} {l : List (Int × ByteArray)} {w0 w w1 : World}
theorem Mem.lt (h : Mem B a b c x g s v k q l w0 w) : a < w.heap.size ∧ b < w.heap.size ∧ c < w.heap.size ∧ x < w.heap.size :=
  ⟨(Array.getElem?_eq_some_iff.1 h.ha).1, (Array.getElem?_eq_some_iff.1 h.hb).1, (Array.getElem?_eq_some_iff.1 h.hc).1, (Array.getElem?_eq_some_iff.1 h.hx).1⟩
theorem Mem.c0 (h : Mem B a b c x g s v k q l w0 w) : w.cell? ⟨c, 0, none⟩ = some (.int .i64 k) := by simp [World.cell?, h.hc]
theorem Mem.c1 (h : Mem B a b c x g s v k q l w0 w) : w.cell? ⟨c, 1, none⟩ = some (.string q) := by simp [World.cell?, h.hc]
theorem Mem.cz (h : Mem B a b c x g s v k q l w0 w) (i : Nat) : w.frozen? ⟨c, i, none⟩ = false := by simp [World.frozen?, h.hc]
theorem Mem.b0 (h : Mem B a b c x g s v k q l w0 w) : w.cell? ⟨b, 0, none⟩ = some v := by simp [World.cell?, h.hb]
theorem Mem.bz (h : Mem B a b c x g s v k q l w0 w) (i : Nat) : w.frozen? ⟨b, i, none⟩ = false := by simp [World.frozen?, h.hb]
/-- The scanner moves. -/
theorem Mem.moved (h : Mem B a b c x g s v k q l w0 w) (hg : w.grownBy w1 (some g)) (hB : B ≤ g) (hga : a ≠ g) (hgb : b ≠ g) (hgc : c ≠ g) (hgx : x ≠ g) : Mem B a b c x g s v k q l w0 w1 := by
  obtain ⟨l1, l2, l3, l4⟩ := h.lt
  have hBw : B ≤ w.heap.size := Nat.le_trans h.base h.below.size
  refine ⟨h.base, h.below.grown hg hBw (fun n hn => by cases hn; exact hB), ?_, ?_, ?_, ?_, ?_⟩
  · exact (hg.block a l1 (fun e => hga (Option.some.inj e))).trans h.ha
  · exact (hg.block b l2 (fun e => hgb (Option.some.inj e))).trans h.hb
  · exact (hg.block c l3 (fun e => hgc (Option.some.inj e))).trans h.hc
  · exact (hg.block x l4 (fun e => hgx (Option.some.inj e))).trans h.hx
  · exact Kd.R_grown h.row hg (fun n hn e => hn.2.2.2.2 (Option.some.inj e))
/-- New blocks. -/
theorem Mem.grew (h : Mem B a b c x g s v k q l w0 w) (hg : w.grownBy w1 none) : Mem B a b c x g s v k q l w0 w1 := by
  obtain ⟨l1, l2, l3, l4⟩ := h.lt
  have hBw : B ≤ w.heap.size := Nat.le_trans h.base h.below.size
  refine ⟨h.base, h.below.grown hg hBw (fun n hn => by cases hn), ?_, ?_, ?_, ?_, ?_⟩
  · exact (hg.block a l1 (by simp)).trans h.ha
  · exact (hg.block b l2 (by simp)).trans h.hb
  · exact (hg.block c l3 (by simp)).trans h.hc
  · exact (hg.block x l4 (by simp)).trans h.hx
  · exact Kd.R_grown h.row hg (fun n hn e => by cases e)
theorem Mem.drewN (h : Mem B a b c x g s v k q l w0 w) (n : Nat) : Mem B a b c x g s v k q l w0 (w.drewN n) := h.grew (grownBy_drewN _ _ _)
theorem Mem.alloc (h : Mem B a b c x g s v k q l w0 w) (o : Obj) : Mem B a b c x g s v k q l w0 (w.alloc o) := h.grew (grownBy_alloc _ _ _)
/-- A member is appended, and the variable set. -/
theorem Mem.push (h : Mem B a b c x g s v k q l w0 w) {v1 : Value} {l1 : List (Int × ByteArray)} (ho : kp.R 75 w1 B (fun n => n ≠ a ∧ n ≠ b ∧ n ≠ c ∧ n ≠ x ∧ n ≠ g) v1 l1) (hbl : Below B w0 w1) (hg : w.grownBy w1 v.ownBlock) (hB : B ≤ b) (hba : a ≠ b) (hbc : b ≠ c) (hbx : b ≠ x) :
    Mem B a b c x g s v1 k q l1 w0 (w1.setCell ⟨b, 0, none⟩ v1) := by
  obtain ⟨l1, l2, l3, l4⟩ := h.lt
  have r1 := hg.block a l1 (Kd.R_away h.row (fun _ hk => hk.1))
  have r2 := hg.block b l2 (Kd.R_away h.row (fun _ hk => hk.2.1))
  have r3 := hg.block c l3 (Kd.R_away h.row (fun _ hk => hk.2.2.1))
  have r4 := hg.block x l4 (Kd.R_away h.row (fun _ hk => hk.2.2.2.1))
  refine ⟨h.base, hbl.setCell hB _, ?_, ?_, ?_, ?_, ?_⟩
  · exact (Below.heap_setCell w1 _ _ a hba).trans (r1.trans h.ha)
  · have := r2.trans h.hb
    simp [World.setCell, Array.getElem?_modify, this]
  · exact (Below.heap_setCell w1 _ _ c hbc.symm).trans (r3.trans h.hc)
  · exact (Below.heap_setCell w1 _ _ x hbx.symm).trans (r4.trans h.hx)
  · exact Kd.R_far ho (fun _ hk => hk.2.1) _
/-- The second variable is set. -/
theorem Mem.ret (h : Mem B a b c x g s v k q l w0 w) (k1 : Int) (q1 : ByteArray) (hB : B ≤ c) (hca : a ≠ c) (hbc : b ≠ c) (hcx : c ≠ x) :
    Mem B a b c x g s v k1 q1 l w0 ((w.setCell ⟨c, 0, none⟩ (.int .i64 k1)).setCell ⟨c, 1, none⟩ (.string q1)) := by
  refine ⟨h.base, (h.below.setCell hB _).setCell hB _, ?_, ?_, ?_, ?_, ?_⟩
  · exact (Below.heap_setCell _ _ _ a hca).trans ((Below.heap_setCell _ _ _ a hca).trans h.ha)
  · exact (Below.heap_setCell _ _ _ b hbc).trans ((Below.heap_setCell _ _ _ b hbc).trans h.hb)
  · have := h.hc
    simp [World.setCell, Array.getElem?_modify, this]
  · exact (Below.heap_setCell _ _ _ x hcx.symm).trans ((Below.heap_setCell _ _ _ x hcx.symm).trans h.hx)
  · exact Kd.R_far (p := ⟨c, 1, none⟩) (Kd.R_far (p := ⟨c, 0, none⟩) h.row (fun _ hk => hk.2.2.1) _) (fun _ hk => hk.2.2.1) _
end
/-- What the closure leaves. -/
def Fin (B a b c x : Nat) (s : ByteArray) (w0 : World) : Except Int (List (Int × ByteArray) × Int × ByteArray) → Ending → World → Prop
  | .ok r => fun e w' => e = .returned (.tuple #[]) ∧ ∃ g v, Mem B a b c x g s v r.2.1 r.2.2 r.1 w0 w'
  | .error n => fun e w' => e = gaveUp n ∧ ∃ g v k q l, Mem B a b c x g s v k q l w0 w'
theorem Fin.ok {B a b c x : Nat} {s : ByteArray} {w0 w' : World} {g : Nat} {v : Value} {k : Int} {q : ByteArray} {l : List (Int × ByteArray)} {R : Except Int (List (Int × ByteArray) × Int × ByteArray)} (hr : R = .ok (l, k, q)) (h : Mem B a b c x g s v k q l w0 w') : Fin B a b c x s w0 R (.returned (.tuple #[])) w' := by
  rw [hr]; exact ⟨rfl, g, v, h⟩
theorem Fin.no {B a b c x : Nat} {s : ByteArray} {w0 w' : World} {g : Nat} {v : Value} {k : Int} {q : ByteArray} {l : List (Int × ByteArray)} {n : Int} {R : Except Int (List (Int × ByteArray) × Int × ByteArray)} (hr : R = .error n) (h : Mem B a b c x g s v k q l w0 w') : Fin B a b c x s w0 R (gaveUp n) w' := by
  rw [hr]; exact ⟨rfl, g, v, k, q, l, h⟩

theorem Scan.grownN {w w1 : World} {g : Nat} {s : ByteArray} {i : Int} (h : Scan w g s i) (hg : w.grownBy w1 none) : Scan w1 g s i := ⟨(hg.block g h.lt (by simp)).trans h.heap⟩
theorem Box.grownN {w w1 : World} {n : Nat} {k : Int} {c : ByteArray} (h : Box w n k c) (hg : w.grownBy w1 none) : Box w1 n k c := ⟨(hg.block n (Array.getElem?_eq_some_iff.1 h.heap).1 (by simp)).trans h.heap⟩

theorem Mem.b_row {B a b c x g : Nat} {s : ByteArray} {v : Value} {k : Int} {q : ByteArray} {l : List (Int × ByteArray)} {w0 w w1 : World} (h : Mem B a b c x g s v k q l w0 w) (hg : w.grownBy w1 v.ownBlock) : ∃ u, w1.cell? ⟨b, 0, none⟩ = some u := by
  have := (hg.block b h.lt.2.1 (Kd.R_away h.row (fun _ hk => hk.2.1))).trans h.hb
  exact ⟨v, by simp [World.cell?, this]⟩
theorem Mem.bz_row {B a b c x g : Nat} {s : ByteArray} {v : Value} {k : Int} {q : ByteArray} {l : List (Int × ByteArray)} {w0 w w1 : World} (h : Mem B a b c x g s v k q l w0 w) (hg : w.grownBy w1 v.ownBlock) : w1.frozen? ⟨b, 0, none⟩ = false := by
  have := (hg.block b h.lt.2.1 (Kd.R_away h.row (fun _ hk => hk.2.1))).trans h.hb
  simp [World.frozen?, this]
theorem Scan.row {B a b c x g : Nat} {s : ByteArray} {v : Value} {k : Int} {q : ByteArray} {l : List (Int × ByteArray)} {w0 w w1 : World} {i : Int} (hS : Scan w g s i) (h : Mem B a b c x g s v k q l w0 w) (hg : w.grownBy w1 v.ownBlock) : Scan w1 g s i :=
  ⟨(hg.block g hS.lt (Kd.R_away h.row (fun _ hk => hk.2.2.2.2))).trans hS.heap⟩

set_option maxHeartbeats 4000000 in
set_option maxRecDepth 100000 in
theorem split1_calls (B a b c x : Nat) (s : ByteArray) (hs : s.size ≤ 64) (w0 w : World) (hBa : B ≤ a) (hab : a < b) (hbc : b < c) (hcx : c < x) (hxw : x < w.heap.size)
    (hM : Mem B a b c x w.heap.size s (.slice none 0 0) 0 ⟨#[]⟩ [] w0 w) :
    Calls Tryd.prog 98 #[.pointer (some ⟨a, 0, none⟩), .pointer (some ⟨b, 0, none⟩), .pointer (some ⟨c, 0, none⟩)] w (Fin B a b c x s w0 (bodyB s)) := by
  obtain ⟨R, hR⟩ : ∃ R, Hid (bodyB s = R) := ⟨_, hid rfl⟩
  rw [hR.out]
  have hs2 : s.size ≤ 140737488351232 := by omega
  have hca : w.cell? ⟨a, 0, none⟩ = some (.string s) := by simp [World.cell?, hM.ha]
  have hMg := hM.alloc (.cells #[.string s, .int .i64 0] 115)
  have hSg : Scan (w.alloc (.cells #[.string s, .int .i64 0] 115)) w.heap.size s ((0 : Nat) : Int) := ⟨al_new w _⟩
  have hga : a ≠ w.heap.size := by omega
  have hgb : b ≠ w.heap.size := by omega
  have hgc : c ≠ w.heap.size := by omega
  have hgx : x ≠ w.heap.size := by omega
  have hBg : B ≤ w.heap.size := by omega
  have hab' : a ≠ b := by omega
  have hac' : a ≠ c := by omega
  have hbc' : b ≠ c := by omega
  have hbx' : b ≠ x := by omega
  have hcx' : c ≠ x := by omega
  have hBb : B ≤ b := by omega
  have hBc : B ≤ c := by omega
  clear hM
  by_cases h0 : 0 < s.size
  · by_cases h40 : (s[0].toNat : Int) = 40
    · have e40 : seesB s 0 40 = true := by rw [seesB_of h0]; exact beq_iff_eq.2 h40
      have hbody : Hid (R = afterB s (paramsB s (s.size + 1) 1)) := hid (by rw [← hR.out]; unfold bodyB; rw [if_pos e40])
      clear e40
      go_enter Tryd.func98, Tryd.ntmps98
      go_wp2_with (first
        | (go_at_call 100; with_reducible refine (byte_yes s hs2 0 h0 _ _ hSg).mono ?_; rintro e w' ⟨rfl, hS1, hg1⟩; rw [h40]
           have hM1 := hMg.moved hg1 hBg hga hgb hgc hgx
           clear hMg hSg hg1)
        | (go_at_call 99; refine (unless_ok _ _).mono ?_; rintro e w' ⟨rfl, rfl⟩))
      have hrel0 : Hid (R = afterB s ((paramsB s (s.size + 1) 1).map fun r => (([] : List (Int × ByteArray)) ++ r.1, r.2))) := hid (by rw [hbody.out]; congr 1; cases paramsB s (s.size + 1) 1 <;> rfl)
      clear hbody
      generalize w.heap.size = g at *
      go_loopg [] (s.size + 1) (fun gk wr => ∃ (i : Nat) (acc : List (Int × ByteArray)) (v : Value), Scan wr g s i ∧ Mem B a b c x g s v 0 ⟨#[]⟩ acc w0 wr ∧ Hid (R = afterB s ((paramsB s gk i).map fun r => (acc ++ r.1, r.2))) ∧ s.size + 1 ≤ i + gk ∧ i ≤ s.size ∧ acc.length ≤ i)
      case atStart => exact ⟨1, [], _, hS1, hM1, hrel0, by omega, by omega, by simp⟩
      case round =>
        obtain ⟨i, acc, v, hS, hM, hr, hgk, hi, hal⟩ := hrel
        obtain ⟨n, rfl⟩ : ∃ n, gk = n + 1 := ⟨gk - 1, by omega⟩
        cases h41 : seesB s i 41 with
        | true =>
          obtain ⟨hlt, hv41⟩ := seesB_lt h41
          have hr2 : Hid (R = closeB s acc (oneB s (i + 1))) := hid (by
            rw [hr.out]
            unfold paramsB
            rw [if_pos h41, Option.map_some, List.append_nil]
            rfl)
          clear hr
          have e41 := sees_of s hs2 i 41 h41 _ _ hS
          cases ho : oneB s (i + 1) with
          | none =>
            have hr3 : Hid (R = .error 1) := hid (by rw [hr2.out, ho]; rfl)
            clear hr2
            have eb := fun m => byte_yes s hs2 i hlt _ _ (hS.drewN m)
            have e3 := fun w0 h => one_none ho hs2 g w0 h
            clear ho h41
            go_wp2_with (first
              | (go_at_call 101; with_reducible refine e41.mono ?_; rintro e w' ⟨rfl, m, rfl⟩)
              | (go_at_call 100; with_reducible refine (eb _).mono ?_; rintro e w' ⟨rfl, hS2, hg2⟩
                 have hM2 := (hM.drewN _).moved hg2 hBg hga hgb hgc hgx)
              | (go_at_call 102; with_reducible refine (e3 _ hS2).mono ?_; rintro e w' ⟨rfl, hg3⟩
                 have hM3 := hM2.moved hg3 hBg hga hgb hgc hgx))
            exact ⟨rfl, Fin.no hr3.out hM3⟩
          | some t =>
            obtain ⟨k, q, j⟩ := t
            have eb := fun m => byte_yes s hs2 i hlt _ _ (hS.drewN m)
            have e3 := fun w0 h => one_some ho hs2 g w0 h
            have hj := (oneB_lt ho).2
            obtain ⟨A, cap, hv, hcap, _⟩ := Kd.R_reads hM.row
            subst hv
            have hbnd : ((acc.length : Int) ≤ 8) = (acc.length ≤ 8) := propext (by omega)
            by_cases hjs : j = s.size
            · by_cases hl8 : acc.length ≤ 8
              · have hr3 : Hid (R = .ok (acc, k, q)) := hid (by rw [hr2.out, ho]; simp only [closeB]; rw [if_pos hjs, if_pos hl8])
                have d8 : decide ((acc.length : Int) ≤ 8) = true := decide_eq_true (by omega)
                have d8n : decide (acc.length ≤ 8) = true := decide_eq_true hl8
                clear hr2 ho h41
                go_wp2_with (first
              | (go_at_call 101; with_reducible refine e41.mono ?_; rintro e w' ⟨rfl, m, rfl⟩)
              | (go_at_call 100; with_reducible refine (eb _).mono ?_; rintro e w' ⟨rfl, hS2, hg2⟩
                 have hM2 := (hM.drewN _).moved hg2 hBg hga hgb hgc hgx)
              | (go_at_call 102; with_reducible refine (e3 _ hS2).mono ?_; rintro e w' ⟨rfl, hS3, hg3⟩
                 have hM3 := hM2.moved hg3 hBg hga hgb hgc hgx
                 have c0 := hM3.c0
                 have c1 := hM3.c1
                 have z0 := hM3.cz 0
                 have z1 := hM3.cz 1
                 have hM4 := hM3.ret k q hBc hac' hbc' hcx'
                 have hS4 := (hS3.setNe ⟨c, 0, none⟩ (.int .i64 k) (Ne.symm hgc)).setNe ⟨c, 1, none⟩ (.string q) (Ne.symm hgc)
                 have b0 := hM4.b0)
                  | (go_at_call 104; with_reducible refine (done_yes s hs2 j hjs _ _ hS4).mono ?_; rintro e w' ⟨rfl, m, rfl⟩
                     have hM5 := hM4.drewN m)
                  | (go_at_call 99; refine (unless_ok _ _).mono ?_; rintro e w' ⟨rfl, rfl⟩))
                go_end0
                exact Fin.ok hr3.out hM5
              · have hr3 : Hid (R = .error 3) := hid (by rw [hr2.out, ho]; simp only [closeB]; rw [if_pos hjs, if_neg hl8])
                have d8 : decide ((acc.length : Int) ≤ 8) = false := decide_eq_false (by omega)
                have d8n : decide (acc.length ≤ 8) = false := decide_eq_false hl8
                clear hr2 ho h41
                go_wp2_with (first
              | (go_at_call 101; with_reducible refine e41.mono ?_; rintro e w' ⟨rfl, m, rfl⟩)
              | (go_at_call 100; with_reducible refine (eb _).mono ?_; rintro e w' ⟨rfl, hS2, hg2⟩
                 have hM2 := (hM.drewN _).moved hg2 hBg hga hgb hgc hgx)
              | (go_at_call 102; with_reducible refine (e3 _ hS2).mono ?_; rintro e w' ⟨rfl, hS3, hg3⟩
                 have hM3 := hM2.moved hg3 hBg hga hgb hgc hgx
                 have c0 := hM3.c0
                 have c1 := hM3.c1
                 have z0 := hM3.cz 0
                 have z1 := hM3.cz 1
                 have hM4 := hM3.ret k q hBc hac' hbc' hcx'
                 have hS4 := (hS3.setNe ⟨c, 0, none⟩ (.int .i64 k) (Ne.symm hgc)).setNe ⟨c, 1, none⟩ (.string q) (Ne.symm hgc)
                 have b0 := hM4.b0)
                  | (go_at_call 104; with_reducible refine (done_yes s hs2 j hjs _ _ hS4).mono ?_; rintro e w' ⟨rfl, m, rfl⟩
                     have hM5 := hM4.drewN m)
                  | (go_at_call 99; refine (unless_no _ _).mono ?_; rintro e w' ⟨rfl, rfl⟩))
                exact ⟨rfl, Fin.no hr3.out hM5⟩
            · have hr3 : Hid (R = .error 1) := hid (by rw [hr2.out, ho]; simp only [closeB]; rw [if_neg hjs])
              clear hr2 ho h41
              go_wp2_with (first
              | (go_at_call 101; with_reducible refine e41.mono ?_; rintro e w' ⟨rfl, m, rfl⟩)
              | (go_at_call 100; with_reducible refine (eb _).mono ?_; rintro e w' ⟨rfl, hS2, hg2⟩
                 have hM2 := (hM.drewN _).moved hg2 hBg hga hgb hgc hgx)
              | (go_at_call 102; with_reducible refine (e3 _ hS2).mono ?_; rintro e w' ⟨rfl, hS3, hg3⟩
                 have hM3 := hM2.moved hg3 hBg hga hgb hgc hgx
                 have c0 := hM3.c0
                 have c1 := hM3.c1
                 have z0 := hM3.cz 0
                 have z1 := hM3.cz 1
                 have hM4 := hM3.ret k q hBc hac' hbc' hcx'
                 have hS4 := (hS3.setNe ⟨c, 0, none⟩ (.int .i64 k) (Ne.symm hgc)).setNe ⟨c, 1, none⟩ (.string q) (Ne.symm hgc)
                 have b0 := hM4.b0)
                | (go_at_call 104; with_reducible refine (done_no s hs2 j hjs _ _ hS4).mono ?_; rintro e w' ⟨rfl, hg5⟩
                   have hM5 := hM4.moved hg5 hBg hga hgb hgc hgx))
              exact ⟨rfl, Fin.no hr3.out hM5⟩
        | false =>
          have e41 := sees_of s hs2 i 41 h41 _ _ hS
          cases ho : oneB s i with
          | none =>
            have hr3 : Hid (R = .error 1) := hid (by
              rw [hr.out]
              unfold paramsB
              rw [if_neg (by rw [h41]; simp), ho]
              rfl)
            have e3 := fun w0 h => one_none ho hs2 g w0 h
            clear ho h41 hr
            go_wp2_with (first
              | (go_at_call 101; with_reducible refine e41.mono ?_; rintro e w' ⟨rfl, m, rfl⟩
                 have hS2 := hS.drewN m)
              | (go_at_call 102; with_reducible refine (e3 _ hS2).mono ?_; rintro e w' ⟨rfl, hg3⟩
                 have hM3 := (hM.drewN m).moved hg3 hBg hga hgb hgc hgx))
            exact ⟨rfl, Fin.no hr3.out hM3⟩
          | some t =>
            obtain ⟨k, q, j⟩ := t
            have hj := oneB_lt ho
            have hq := oneB_name ho
            simp only at hj hq
            have e3 := fun w0 h => one_some ho hs2 g w0 h
            cases hp : paramT k q with
            | false =>
              have hr3 : Hid (R = .error 1) := hid (by
                rw [hr.out]
                unfold paramsB
                rw [if_neg (by rw [h41]; simp), ho]
                simp only
                rw [if_neg (by rw [hp]; simp)]
                rfl)
              have ep := fun w => param_calls k q (by omega) w
              rw [hp] at ep
              clear ho h41 hr hp
              go_wp2_with (first
                | (go_at_call 101; with_reducible refine e41.mono ?_; rintro e w' ⟨rfl, m, rfl⟩
                   have hS2 := hS.drewN m)
                | (go_at_call 102; with_reducible refine (e3 _ hS2).mono ?_; rintro e w' ⟨rfl, hS3, hg3⟩
                   have hM3 := ((hM.drewN m).moved hg3 hBg hga hgb hgc hgx).alloc (.cells #[.int .i64 k, .string q] 75))
                | (go_at_call 103; with_reducible refine (ep _).mono ?_; rintro e w'' ⟨rfl, hg4⟩
                   have hM4 := hM3.grew hg4)
                | (go_at_call 99; refine (unless_no _ _).mono ?_; rintro e w' ⟨rfl, rfl⟩))
              exact ⟨rfl, Fin.no hr3.out hM4⟩
            | true =>
              have hr3 : Hid (R = afterB s ((paramsB s n j).map fun r => ((acc ++ [(k, q)]) ++ r.1, r.2))) := hid (by rw [hr.out, paramsB_push acc h41 ho hp])
              have ep := fun w => param_calls k q (by omega) w
              rw [hp] at ep
              clear ho h41 hr hp
              go_wp2_with (first
                | (go_at_call 101; with_reducible refine e41.mono ?_; rintro e w' ⟨rfl, m, rfl⟩
                   have hS2 := hS.drewN m)
                | (go_at_call 102; with_reducible refine (e3 _ hS2).mono ?_; rintro e w' ⟨rfl, hS3, hg3⟩
                   have hM3 := ((hM.drewN m).moved hg3 hBg hga hgb hgc hgx).alloc (.cells #[.int .i64 k, .string q] 75)
                   have hB3 := Box.new w' k q)
                | (go_at_call 103; with_reducible refine (ep _).mono ?_; rintro e w'' ⟨rfl, hg4⟩
                   have hM4 := hM3.grew hg4
                   have hB4 := hB3.grownN hg4
                   have hS4 := (hS3.alloc (.cells #[.int .i64 k, .string q] 75)).grownN hg4
                   have t0 := hB4.c0
                   have t1 := hB4.c1
                   have b0 := hM4.b0
                   have bz := hM4.bz 0)
                | (go_at_call 99; refine (unless_ok _ _).mono ?_; rintro e w' ⟨rfl, rfl⟩)
                | (at_builtin
                   refine Kd.R_append kp (w0 := w0) (W := w'') B rfl (.tmp 20) (.tmp 22) 72 75 (.agg #[(.int .i64 0), (.string ⟨#[]⟩)]) 24 rfl Tryd.underlying72 kp_info rfl (by decide) (by omega) v acc (k, q) [.int .i64 k, .string q] (fun n => n ≠ a ∧ n ≠ b ∧ n ≠ c ∧ n ≠ x ∧ n ≠ g) (fun _ => False) rfl (by first | (go_simp; done) | (go_simp; rfl)) (kp_mkM _ _ _ k q) (fun _ hk => hk.elim) ?aF hM4.row hM4.below ?aS ?aL ?_
                   case aF =>
                     intro z hz
                     obtain ⟨l1, l2, l3, l4⟩ := hM4.lt
                     have := hS4.lt
                     exact ⟨by omega, by omega, by omega, by omega, by omega⟩
                   case aS => exact Nat.le_trans hM4.base hM4.below.size
                   case aL => omega
                   intro v1 w5 ho5 hb5 hg5 hat5
                   have hM5 := hM4.push ho5 hb5 hg5 hBb hab' hbc' hbx'
                   have bz5 : w5.frozen? ⟨b, 0, none⟩ = false := hM4.bz_row hg5
                   have by5 : ∃ u, w5.cell? ⟨b, 0, none⟩ = some u := hM4.b_row hg5
                   obtain ⟨u5, b5⟩ := by5
                   have hS5 := (hS4.row hM4 hg5).setNe ⟨b, 0, none⟩ v1 (Ne.symm hgb)
                   obtain ⟨A5, cap5, hv5, _, _⟩ := Kd.R_reads ho5
                   clear ho5
                   subst hv5
                   have hln : (acc ++ [(k, q)]).length = acc.length + 1 := by simp
                   rw [hln] at hS5 hM5))
              go_roundg n
              case rel => exact ⟨j, acc ++ [(k, q)], _, hS5, hM5, hr3, by omega, by omega, by simp; omega⟩
              case measure => omega
    · have hbody : Hid (R = .error 1) := hid (by
        rw [← hR.out]
        unfold bodyB
        rw [seesB_of h0, if_neg (by simpa using h40)])
      have hq : ((s[0].toNat : Int) == 40) = false := beq_eq_false_iff_ne.2 h40
      go_enter Tryd.func98, Tryd.ntmps98
      go_wp2_with (first
        | (go_at_call 100; with_reducible refine (byte_yes s hs2 0 h0 _ _ hSg).mono ?_; rintro e w' ⟨rfl, hS1, hg1⟩
           have hM1 := hMg.moved hg1 hBg hga hgb hgc hgx)
        | (go_at_call 99; refine (unless_no _ _).mono ?_; rintro e w' ⟨rfl, rfl⟩))
      exact ⟨rfl, Fin.no hbody.out hM1⟩
  · have hbody : Hid (R = .error 1) := hid (by
      rw [← hR.out]
      unfold bodyB
      rw [seesB_not h0]
      rfl)
    go_enter Tryd.func98, Tryd.ntmps98
    go_wp2_with (first
      | (go_at_call 100; with_reducible refine (byte_no s hs2 0 h0 _ _ hSg).mono ?_; rintro e w' ⟨rfl, hg1⟩))
    exact ⟨rfl, Fin.no hbody.out (hMg.moved hg1 hBg hga hgb hgc hgx)⟩
end Go.Proofs.YtmamaijiphdggaaDoor.Given
