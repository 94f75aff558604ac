/- kind.Split: a descriptor's types. -/
import Derived.Test.YtmamaijiphdggaaDoorSplitOne
namespace Go.Proofs.YtmamaijiphdggaaDoor.Given
set_option linter.unusedVariables false
set_option linter.unusedSimpArgs false
open Go.RowKit Go.Lib
open Go.Proofs.YtmamaijiphdggaaDoorW.PrintWords

/-- The three variables as they are made. -/
def three (w : World) (s : ByteArray) : World := ((w.alloc (.cells #[.string s] 9)).alloc (.cells #[.slice none 0 0] 72)).alloc (.cells #[.int .i64 0, .string ⟨#[]⟩] 75)
theorem three_size (w : World) (s : ByteArray) : (three w s).heap.size = w.heap.size + 1 + 1 + 1 := by simp [three, al_size]
theorem three_mem (w : World) (s : ByteArray) : Mem w.heap.size w.heap.size (w.heap.size + 1) (w.heap.size + 1 + 1) (w.heap.size + 1 + 1 + 1) (w.heap.size + 1 + 1 + 1 + 1) s (.slice none 0 0) 0 ⟨#[]⟩ [] w ((three w s).alloc (.cells #[.int .i64 0] 28)) := by
  have s1 := al_size w (.cells #[.string s] 9)
  have s2 := al_size (w.alloc (.cells #[.string s] 9)) (.cells #[.slice none 0 0] 72)
  have s3 := three_size w s
  refine ⟨Nat.le_refl _, ?_, ?_, ?_, ?_, ?_, Kd.R_nil _ _ _ _ _⟩
  · exact ((((Below.refl _ _).alloc (Nat.le_refl _) _).alloc (by omega) _).alloc (by omega) _).alloc (by rw [three] at s3; omega) _
  · rw [al_old _ _ (by omega), three, al_old _ _ (by omega), al_old _ _ (by omega), al_new]
  · rw [al_old _ _ (by omega), three, al_old _ _ (by omega), ← s1, al_new]
  · have := al_new ((w.alloc (.cells #[.string s] 9)).alloc (.cells #[.slice none 0 0] 72)) (.cells #[.int .i64 0, .string ⟨#[]⟩] 75)
    rw [s2, s1] at this
    rw [al_old _ _ (by omega), three, this]
  · have := al_new (three w s) (.cells #[.int .i64 0] 28)
    rw [s3] at this
    rw [this]; rfl

/-- What Split leaves of its variables. -/
structure Kept3 (w : World) (s : ByteArray) (v : Value) (k : Int) (q : ByteArray) (l : List (Int × ByteArray)) (w' : World) : Prop where
  below : Below w.heap.size w w'
  hb : w'.heap[w.heap.size + 1]? = some (.cells #[v] 72 (0, 0))
  hc : w'.heap[w.heap.size + 1 + 1]? = some (.cells #[.int .i64 k, .string q] 75 (0, 0))
  row : kp.R 75 w' w.heap.size (fun n => n ≠ w.heap.size + 1 ∧ n ≠ w.heap.size + 1 + 1) v l
theorem Kept3.of {w w1 : World} {s : ByteArray} {g : Nat} {v : Value} {k : Int} {q : ByteArray} {l : List (Int × ByteArray)} (h : Mem w.heap.size w.heap.size (w.heap.size + 1) (w.heap.size + 1 + 1) (w.heap.size + 1 + 1 + 1) g s v k q l w w1) (n : Int) :
    Kept3 w s v k q l (w1.setCell ⟨w.heap.size + 1 + 1 + 1, 0, none⟩ (.int .i64 n)) :=
  ⟨h.below.setCell (by show w.heap.size ≤ w.heap.size + 1 + 1 + 1; omega) _, (Below.heap_setCell w1 _ _ _ (by show w.heap.size + 1 ≠ w.heap.size + 1 + 1 + 1; omega)).trans h.hb, (Below.heap_setCell w1 _ _ _ (by show w.heap.size + 1 + 1 ≠ w.heap.size + 1 + 1 + 1; omega)).trans h.hc,
    Kd.R_mono (Kd.R_far (p := ⟨w.heap.size + 1 + 1 + 1, 0, none⟩) h.row (fun _ hk => hk.2.2.2.1) _) (fun _ hk => ⟨hk.2.1, hk.2.2.1⟩)⟩
theorem Kept3.alloc {w w1 : World} {s : ByteArray} {v : Value} {k : Int} {q : ByteArray} {l : List (Int × ByteArray)} (h : Kept3 w s v k q l w1) (o : Obj) : Kept3 w s v k q l (w1.alloc o) :=
  ⟨h.below.alloc h.below.size o, (al_old w1 o (Array.getElem?_eq_some_iff.1 h.hb).1).trans h.hb, (al_old w1 o (Array.getElem?_eq_some_iff.1 h.hc).1).trans h.hc, Kd.R_grown h.row (grownBy_alloc w1 o none) (fun _ _ e => by cases e)⟩

theorem Kept3.drew {w w1 : World} {s : ByteArray} {v : Value} {k : Int} {q : ByteArray} {l : List (Int × ByteArray)} (h : Kept3 w s v k q l w1) : Kept3 w s v k q l w1.drew := ⟨h.below.drew, h.hb, h.hc, Kd.R_grown h.row (grownBy_drew w1 none) (fun _ _ e => by cases e)⟩

theorem caught_split (w : World) (s : ByteArray) (hs : s.size ≤ 64) :
    Calls Tryd.prog 97 #[.func (.func 98) #[] #[.pointer (some ⟨w.heap.size, 0, none⟩), .pointer (some ⟨w.heap.size + 1, 0, none⟩), .pointer (some ⟨w.heap.size + 1 + 1, 0, none⟩)]] (three w s)
      fun e w' => match bodyB s with
        | .ok r => e = .returned (.int .i64 0) ∧ ∃ v, Kept3 w s v r.2.1 r.2.2 r.1 w'
        | .error n => e = .returned (.int .i64 n) ∧ ∃ v k q l, Kept3 w s v k q l w' := by
  have h := split1_calls w.heap.size w.heap.size (w.heap.size + 1) (w.heap.size + 1 + 1) (w.heap.size + 1 + 1 + 1) s hs w ((three w s).alloc (.cells #[.int .i64 0] 28)) (Nat.le_refl _) (by omega) (by omega) (by omega) (by rw [al_size, three_size]; omega)
    (by rw [al_size, three_size]; exact three_mem w s)
  have s3 := three_size w s
  cases hb : bodyB s with
  | ok r =>
    rw [hb] at h
    refine (caught_yes _ _ _ (three w s) (fun w' => ∃ g v, Mem w.heap.size w.heap.size (w.heap.size + 1) (w.heap.size + 1 + 1) (w.heap.size + 1 + 1 + 1) g s v r.2.1 r.2.2 r.1 w w') (h.mono ?_)).mono ?_
    · rintro e w' ⟨rfl, g, v, hM⟩
      exact ⟨rfl, ⟨g, v, hM⟩, by rw [s3]; exact hM.hx⟩
    · rintro e w' ⟨rfl, w1, ⟨g, v, hM⟩, rfl⟩
      rw [s3]
      exact ⟨rfl, v, Kept3.of hM 0⟩
  | error n =>
    rw [hb] at h
    refine (caught_no _ _ _ (three w s) n (fun w' => ∃ g v k q l, Mem w.heap.size w.heap.size (w.heap.size + 1) (w.heap.size + 1 + 1) (w.heap.size + 1 + 1 + 1) g s v k q l w w') (h.mono ?_)).mono ?_
    · rintro e w' ⟨rfl, g, v, k, q, l, hM⟩
      exact ⟨rfl, ⟨g, v, k, q, l, hM⟩, by rw [s3]; exact hM.hx⟩
    · rintro e w' ⟨rfl, w1, ⟨g, v, k, q, l, hM⟩, rfl⟩
      rw [s3]
      exact ⟨rfl, v, k, q, l, (Kept3.of hM n).alloc _⟩

theorem Kept3.b0 {w w1 : World} {s : ByteArray} {v : Value} {k : Int} {q : ByteArray} {l : List (Int × ByteArray)} (h : Kept3 w s v k q l w1) : w1.cell? ⟨w.heap.size + 1, 0, none⟩ = some v := by simp [World.cell?, h.hb]
theorem Kept3.bz {w w1 : World} {s : ByteArray} {v : Value} {k : Int} {q : ByteArray} {l : List (Int × ByteArray)} (h : Kept3 w s v k q l w1) : w1.frozen? ⟨w.heap.size + 1, 0, none⟩ = false := by simp [World.frozen?, h.hb]
theorem Kept3.c0 {w w1 : World} {s : ByteArray} {v : Value} {k : Int} {q : ByteArray} {l : List (Int × ByteArray)} (h : Kept3 w s v k q l w1) : w1.cell? ⟨w.heap.size + 1 + 1, 0, none⟩ = some (.int .i64 k) := by simp [World.cell?, h.hc]
theorem Kept3.c1 {w w1 : World} {s : ByteArray} {v : Value} {k : Int} {q : ByteArray} {l : List (Int × ByteArray)} (h : Kept3 w s v k q l w1) : w1.cell? ⟨w.heap.size + 1 + 1, 1, none⟩ = some (.string q) := by simp [World.cell?, h.hc]
theorem Kept3.cz {w w1 : World} {s : ByteArray} {v : Value} {k : Int} {q : ByteArray} {l : List (Int × ByteArray)} (h : Kept3 w s v k q l w1) (i : Nat) : w1.frozen? ⟨w.heap.size + 1 + 1, i, none⟩ = false := by simp [World.frozen?, h.hc]

theorem Kept3.put {w w1 : World} {s : ByteArray} {v : Value} {k : Int} {q : ByteArray} {l : List (Int × ByteArray)} (h : Kept3 w s v k q l w1) {v' : Value} {l' : List (Int × ByteArray)} (hr : kp.R 75 w1 w.heap.size (fun n => n ≠ w.heap.size + 1 ∧ n ≠ w.heap.size + 1 + 1) v' l') (k' : Int) (q' : ByteArray) :
    Kept3 w s v' k' q' l' (((w1.setCell ⟨w.heap.size + 1, 0, none⟩ v').setCell ⟨w.heap.size + 1 + 1, 0, none⟩ (.int .i64 k')).setCell ⟨w.heap.size + 1 + 1, 1, none⟩ (.string q')) := by
  have e1 : w.heap.size ≤ w.heap.size + 1 := by omega
  have e2 : w.heap.size ≤ w.heap.size + 1 + 1 := by omega
  refine ⟨((h.below.setCell (p := ⟨w.heap.size + 1, 0, none⟩) e1 _).setCell (p := ⟨w.heap.size + 1 + 1, 0, none⟩) e2 _).setCell (p := ⟨w.heap.size + 1 + 1, 1, none⟩) e2 _, ?_, ?_, ?_⟩
  · rw [Below.heap_setCell _ _ _ _ (by show w.heap.size + 1 ≠ w.heap.size + 1 + 1; omega), Below.heap_setCell _ _ _ _ (by show w.heap.size + 1 ≠ w.heap.size + 1 + 1; omega)]
    have := h.hb
    simp [World.setCell, Array.getElem?_modify, this]
  · have h3 : (w1.setCell ⟨w.heap.size + 1, 0, none⟩ v').heap[w.heap.size + 1 + 1]? = some (.cells #[.int .i64 k, .string q] 75 (0, 0)) := (Below.heap_setCell _ _ _ _ (by show w.heap.size + 1 + 1 ≠ w.heap.size + 1; omega)).trans h.hc
    generalize w1.setCell ⟨w.heap.size + 1, 0, none⟩ v' = W at h3
    simp [World.setCell, Array.getElem?_modify, h3]
  · exact Kd.R_far (p := ⟨w.heap.size + 1 + 1, 1, none⟩) (Kd.R_far (p := ⟨w.heap.size + 1 + 1, 0, none⟩) (Kd.R_far (p := ⟨w.heap.size + 1, 0, none⟩) hr (fun _ hk => hk.1) _) (fun _ hk => hk.2) _) (fun _ hk => hk.2) _

set_option maxHeartbeats 4000000 in
set_option maxRecDepth 100000 in
theorem split_no (w : World) (s : ByteArray) (hs : s.size ≤ 64) (n : Int) (hn : bodyB s = .error n) (h0 : n ≠ 0) :
    Calls Tryd.prog 74 #[.string s] w fun e w' => e = .returned (.tuple #[.slice none 0 0, .agg #[.int .i64 0, .string ⟨#[]⟩], .int .i64 n]) ∧ Below w.heap.size w w' := by
  have h1 : decide (64 < s.size) = false := decide_eq_false (by omega)
  have h2 := caught_split w s hs
  rw [hn] at h2
  have hne : (n == 0) = false := beq_eq_false_iff_ne.2 h0
  have hne2 : (n != 0) = true := by rw [bne, hne]; rfl
  clear hn
  go_enter Tryd.func74, Tryd.ntmps74
  go_wp2_with (go_at_call 97; refine h2.mono ?_; rintro e w' ⟨rfl, v, k, q, l, hK⟩
               have b0 := hK.b0
               have bz := hK.bz
               have c0 := hK.c0
               have c1 := hK.c1
               have z0 := hK.cz 0
               have z1 := hK.cz 1
               obtain ⟨A, cap, hv⟩ := Kd.R_slice hK.row
               subst hv)
  have hP := hK.put (Kd.R_nil kp 75 w' w.heap.size _) 0 ⟨#[]⟩
  have r0 := hP.b0
  have r1 := hP.c0
  have r2 := hP.c1
  try simp only [Exit.inBlock, Exit.then]
  refine bodyPost_ret (v := .tuple #[.slice none 0 0, .agg #[.int .i64 0, .string ⟨#[]⟩], .int .i64 n]) (by simp [results, Tryd.results74, go_sem, r0, r1, r2]) rfl ?_
  exact ⟨rfl, hP.below⟩

set_option maxHeartbeats 4000000 in
set_option maxRecDepth 100000 in
theorem split_yes (w : World) (s : ByteArray) (hs : s.size ≤ 64) (l : List (Int × ByteArray)) (k : Int) (q : ByteArray) (hn : bodyB s = .ok (l, k, q)) :
    Calls Tryd.prog 74 #[.string s] w fun e w' => ∃ v, e = .returned (.tuple #[v, .agg #[.int .i64 k, .string q], .int .i64 0]) ∧ kp.R 75 w' w.heap.size (fun _ => True) v l ∧ Below w.heap.size w w' := by
  have h1 : decide (64 < s.size) = false := decide_eq_false (by omega)
  have h2 := caught_split w s hs
  rw [hn] at h2
  clear hn
  go_enter Tryd.func74, Tryd.ntmps74
  go_wp2_with (go_at_call 97; refine h2.mono ?_; rintro e w' ⟨rfl, v, hK⟩
               have b0 := hK.b0
               have bz := hK.bz
               have c0 := hK.c0
               have c1 := hK.c1
               have z0 := hK.cz 0
               have z1 := hK.cz 1
               obtain ⟨A, cap, hv⟩ := Kd.R_slice hK.row
               subst hv)
  go_region
  all_goals
    go_wp2
    have hP := (hK.put hK.row k q).drew
    have r0 := hP.b0
    have r1 := hP.c0
    have r2 := hP.c1
    try simp only [Exit.inBlock, Exit.then]
    refine bodyPost_ret (v := .tuple #[.slice A l.length cap, .agg #[.int .i64 k, .string q], .int .i64 0]) (by simp [results, Tryd.results74, go_sem, r0, r1, r2]) rfl ?_
    exact ⟨_, rfl, Kd.R_mono hP.row (fun _ _ => trivial), hP.below⟩

set_option maxHeartbeats 4000000 in
set_option maxRecDepth 100000 in
theorem split_long (w : World) (s : ByteArray) (hs : 64 < s.size) (hs2 : s.size ≤ 140737488351232) :
    Calls Tryd.prog 74 #[.string s] w fun e w' => e = .returned (.tuple #[.slice none 0 0, .agg #[.int .i64 0, .string ⟨#[]⟩], .int .i64 3]) ∧ Below w.heap.size w w' := by
  have h1 : decide (64 < s.size) = true := decide_eq_true (by omega)
  go_enter Tryd.func74, Tryd.ntmps74
  go_wp2
  try simp only [Exit.inBlock, Exit.then]
  have s1 := al_size w (.cells #[.string s] 9)
  have s2 := al_size (w.alloc (.cells #[.string s] 9)) (.cells #[.slice none 0 0] 72)
  have s3 := three_size w s
  have hM := three_mem w s
  have r0 : (three w s).cell? ⟨w.heap.size + 1, 0, none⟩ = some (.slice none 0 0) := by
    have := hM.hb
    rw [al_old _ _ (by omega)] at this
    simp [World.cell?, this]
  have r1 : (three w s).cell? ⟨w.heap.size + 1 + 1, 0, none⟩ = some (.int .i64 0) := by
    have := hM.hc
    rw [al_old _ _ (by omega)] at this
    simp [World.cell?, this]
  have r2 : (three w s).cell? ⟨w.heap.size + 1 + 1, 1, none⟩ = some (.string ⟨#[]⟩) := by
    have := hM.hc
    rw [al_old _ _ (by omega)] at this
    simp [World.cell?, this]
  have hbl : Below w.heap.size w (three w s) := (((Below.refl _ _).alloc (Nat.le_refl _) _).alloc (by omega) _).alloc (by omega) _
  change bodyPost Tryd.prog Tryd.f74 _ _ _ (three w s)
  generalize three w s = W at r0 r1 r2 hbl ⊢
  refine bodyPost_ret (v := .tuple #[.slice none 0 0, .agg #[.int .i64 0, .string ⟨#[]⟩], .int .i64 3]) (by simp [results, Tryd.results74, go_sem, r0, r1, r2]) rfl ?_
  exact ⟨rfl, hbl⟩

theorem body_ne {s : ByteArray} {n : Int} (h : bodyB s = .error n) : n ≠ 0 := by
  unfold bodyB at h
  split at h
  · cases hp : paramsB s (s.size + 1) 1 with
    | none => rw [hp] at h; cases h; simp
    | some r =>
      rw [hp] at h
      simp only [afterB] at h
      cases ho : oneB s (r.2 + 1) with
      | none => rw [ho] at h; cases h; simp
      | some t =>
        rw [ho] at h
        simp only [closeB] at h
        split at h
        · split at h
          · cases h
          · cases h; simp
        · cases h; simp
  · cases h; simp
/-- Split, whatever the descriptor. -/
theorem Split_calls (s : ByteArray) (hs : s.size ≤ 140737488351232) (w : World) :
    Calls Tryd.prog 74 #[.string s] w fun e w' => ∃ v, e = .returned (.tuple #[v, .agg #[.int .i64 (splitB s).2.1, .string (splitB s).2.2.1], .int .i64 (splitB s).2.2.2]) ∧ kp.R 75 w' w.heap.size (fun _ => True) v (splitB s).1 ∧ Below w.heap.size w w' := by
  unfold splitB
  by_cases h : 64 < s.size
  · rw [if_pos h]
    exact (split_long w s h hs).mono fun e w' hq => ⟨_, hq.1, Kd.R_nil _ _ _ _ _, hq.2⟩
  · rw [if_neg h]
    cases hb : bodyB s with
    | error n => exact (split_no w s (by omega) n hb (body_ne hb)).mono fun e w' hq => ⟨_, hq.1, Kd.R_nil _ _ _ _ _, hq.2⟩
    | ok r => exact split_yes w s (by omega) r.1 r.2.1 r.2.2 hb
end Go.Proofs.YtmamaijiphdggaaDoor.Given
