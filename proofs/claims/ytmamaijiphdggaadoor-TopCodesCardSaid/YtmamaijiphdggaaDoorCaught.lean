/- The inner function kind.caught: what reading gives up with comes back as a number. -/
import Derived.Test.YtmamaijiphdggaaDoorParam
import Derived.Recover
import Derived.Defers
namespace Go.Proofs.YtmamaijiphdggaaDoor.Given
set_option linter.unusedVariables false
set_option linter.unusedSimpArgs false
open Go.RowKit Go.Lib

theorem ta_124 (v : Value) (W : World) : (Instr.typeAssert (.iface 124 v) 20 124 true).run Tryd.prog W = .ok (.tuple #[v, .bool true]) W := by
  have e : (Instr.typeAssert (.iface 124 v) 20 124 true).run Tryd.prog W = (if (124 : Nat) = 124 then (pure (Value.tuple #[v, .bool true]) : Sem Value) else (do pure (Value.tuple #[← zeroValue 124, .bool false]))).run Tryd.prog W := by kernel_rfl
  rw [e, if_pos rfl]
  rfl
set_option maxHeartbeats 1000000 in
set_option maxRecDepth 100000 in
theorem catch_panicking (a : Nat) (w : World) (older : List PanicEntry) (n m : Int) (hc : w.cell? ⟨a, 0, none⟩ = some (.int .i64 m)) (hz : w.frozen? ⟨a, 0, none⟩ = false) :
    CallsD Tryd.prog 112 #[.pointer (some ⟨a, 0, none⟩)] (.panicking ({ v := .iface 124 (.agg #[.int .i64 n]), recovered := false } :: older)) w fun e u' w' =>
      e = .returned (.tuple #[]) ∧ u' = .panicking ({ v := .iface 124 (.agg #[.int .i64 n]), recovered := true } :: older) ∧ w' = (w.setCell ⟨a, 0, none⟩ (.int .i64 n)).alloc (.cells #[.int .i64 n] 124) := by
  have hlt : a < w.heap.size := World.block_lt_of_cell? w _ hc
  have hne : w.heap.size ≠ a := by omega
  refine callsD_of_wpS Tryd.func112 rfl fun c₀ cs hu => ?_
  apply wpS_seq
  apply wpS_region
  simp [wpOpsS, go_sem, recoverD, hu, Tryd.ntmps112, Exit.thenS]
  simp only [Array.replicate_succ, Array.replicate_zero, List.push_toArray, List.append_toArray, List.nil_append, List.cons_append, List.setIfInBounds_toArray, List.set_cons_succ, List.set_cons_zero, Array.append_singleton]
  refine wpS_of_wp ?_
  have hta := ta_124 (.agg #[.int .i64 n])
  go_wp2
  simp [bodyPostS, results, Tryd.results112, go_sem]
theorem catch_idle (a : Nat) (w : World) :
    CallsD Tryd.prog 112 #[.pointer (some ⟨a, 0, none⟩)] .returning w fun e u' w' => e = .returned (.tuple #[]) ∧ u' = .returning ∧ w' = w := by
  refine callsD_of_wpS Tryd.func112 rfl fun c₀ cs hu => ?_
  apply wpS_seq
  apply wpS_region
  simp [wpOpsS, go_sem, recoverD, hu, Tryd.ntmps112, Exit.thenS]
  simp only [Array.replicate_succ, Array.replicate_zero, List.push_toArray, List.append_toArray, List.nil_append, List.cons_append, List.setIfInBounds_toArray, List.set_cons_succ, List.set_cons_zero, Array.append_singleton]
  refine wpS_of_wp ?_
  go_wp2
  cases c₀
  simp_all [bodyPostS, results, Tryd.results112]

def boxE : Obj := .cells #[.int .i64 0] 28
def capsOf (a b c : Nat) : Array Value := #[.pointer (some ⟨a, 0, none⟩), .pointer (some ⟨b, 0, none⟩), .pointer (some ⟨c, 0, none⟩)]
theorem boxE_c {w : World} {n : Nat} (h : w.heap[n]? = some boxE) : w.cell? ⟨n, 0, none⟩ = some (.int .i64 0) := by simp [World.cell?, h, boxE]
theorem boxE_f {w : World} {n : Nat} (h : w.heap[n]? = some boxE) : w.frozen? ⟨n, 0, none⟩ = false := by simp [World.frozen?, h, boxE]
theorem boxE_set {w : World} {n : Nat} (h : w.heap[n]? = some boxE) (k : Int) : (w.setCell ⟨n, 0, none⟩ (.int .i64 k)).cell? ⟨n, 0, none⟩ = some (.int .i64 k) := by simp [World.cell?, World.setCell, Array.getElem?_modify, h, boxE]
theorem boxE_set2 {w : World} {n : Nat} (h : w.heap[n]? = some boxE) (k : Int) (o : Obj) : ((w.setCell ⟨n, 0, none⟩ (.int .i64 k)).alloc o).cell? ⟨n, 0, none⟩ = some (.int .i64 k) := by
  have hl : n < (w.setCell ⟨n, 0, none⟩ (.int .i64 k)).heap.size := World.block_lt_of_cell? _ _ (boxE_set h k)
  have := boxE_set h k
  rw [← this]
  exact World.cell?_of_block (al_old _ o hl)
set_option maxHeartbeats 1000000 in
set_option maxRecDepth 100000 in
theorem caught_yes (a b c : Nat) (w : World) (Q : World → Prop)
    (h : Calls Tryd.prog 98 #[.pointer (some ⟨a, 0, none⟩), .pointer (some ⟨b, 0, none⟩), .pointer (some ⟨c, 0, none⟩)] (w.alloc (.cells #[.int .i64 0] 28)) fun e w' => e = .returned (.tuple #[]) ∧ Q w' ∧ w'.heap[w.heap.size]? = some boxE) :
    Calls Tryd.prog 97 #[.func (.func 98) #[] #[.pointer (some ⟨a, 0, none⟩), .pointer (some ⟨b, 0, none⟩), .pointer (some ⟨c, 0, none⟩)]] w fun e w' => e = .returned (.int .i64 0) ∧ ∃ w1, Q w1 ∧ w' = w1.setCell ⟨w.heap.size, 0, none⟩ (.int .i64 0) := by
  have hmf : ∀ (fn : Fn) (first cap : Array Value) (w : World), (Instr.makeFunc fn first cap).run Tryd.prog w = .ok (.func fn first cap) w := fun _ _ _ _ => rfl
  go_enter_defers Tryd.func97, Tryd.ntmps97
  go_wp2_with (go_at_call 98; refine h.mono ?_; rintro e w' ⟨rfl, hQ, hb⟩
               have b0 := boxE_c hb
               have f0 := boxE_f hb)
  refine leaves_cons (f := 112) (args := #[.pointer (some ⟨w.heap.size, 0, none⟩)]) (by simp) (by simp [go_sem]) ?_
  refine (catch_idle w.heap.size _).mono ?_
  rintro e u' w'' ⟨rfl, rfl, rfl⟩
  have r0 := boxE_set hb 0
  simp [Leaves, settle, results, Tryd.results97, go_sem, r0]
  exact ⟨_, hQ, rfl⟩
set_option maxHeartbeats 1000000 in
set_option maxRecDepth 100000 in
theorem caught_no (a b c : Nat) (w : World) (n : Int) (Q : World → Prop)
    (h : Calls Tryd.prog 98 #[.pointer (some ⟨a, 0, none⟩), .pointer (some ⟨b, 0, none⟩), .pointer (some ⟨c, 0, none⟩)] (w.alloc (.cells #[.int .i64 0] 28)) fun e w' => e = gaveUp n ∧ Q w' ∧ w'.heap[w.heap.size]? = some boxE) :
    Calls Tryd.prog 97 #[.func (.func 98) #[] #[.pointer (some ⟨a, 0, none⟩), .pointer (some ⟨b, 0, none⟩), .pointer (some ⟨c, 0, none⟩)]] w fun e w' => e = .returned (.int .i64 n) ∧ ∃ w1, Q w1 ∧ w' = (w1.setCell ⟨w.heap.size, 0, none⟩ (.int .i64 n)).alloc (.cells #[.int .i64 n] 124) := by
  have hmf : ∀ (fn : Fn) (first cap : Array Value) (w : World), (Instr.makeFunc fn first cap).run Tryd.prog w = .ok (.func fn first cap) w := fun _ _ _ _ => rfl
  go_enter_defers Tryd.func97, Tryd.ntmps97
  go_wp2_with (go_at_call 98; refine h.mono ?_; rintro e w' ⟨rfl, hQ, hb⟩
               have b0 := boxE_c hb
               have f0 := boxE_f hb)
  refine leaves_cons (f := 112) (args := #[.pointer (some ⟨w.heap.size, 0, none⟩)]) (by simp) (by simp [go_sem]) ?_
  refine (catch_panicking w.heap.size _ [] n 0 b0 f0).mono ?_
  rintro e u' w'' ⟨rfl, rfl, rfl⟩
  have r0 := boxE_set2 hb n (.cells #[.int .i64 n] 124)
  simp [Leaves, settle, results, Tryd.results97, go_sem, r0]
  exact ⟨_, hQ, rfl⟩
end Go.Proofs.YtmamaijiphdggaaDoor.Given
