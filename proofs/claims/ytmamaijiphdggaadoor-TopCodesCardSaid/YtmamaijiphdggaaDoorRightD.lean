/- norm.Right. -/
import Derived.Test.YtmamaijiphdggaaDoorInOrd
namespace Go.Proofs.YtmamaijiphdggaaDoor.Given
set_option linter.unusedVariables false
set_option linter.unusedSimpArgs false
open Go.RowKit Go.Lib
open Go.Proofs.YtmamaijiphdggaaDoorW.PrintWords
def errP (a b c d : Bool) : Int := if a = true then 3 else if b = false then 1 else if c = false then 1 else if d = false then 5 else 0
def rightP (f : ByteArray → ByteArray → Int) (cs : List S37) (ns : List ByteArray) (e1 e2 e3 : ByteArray) : Int := errP (longP cs ns) (cs.all clsB) (entB e1 e2 e3) (ordP f cs)
set_option maxRecDepth 100000 in
theorem rightP_calls {f : ByteArray → ByteArray → Int} (hf : Cmp f) (cs : List S37) (A : Option Addr) (c : Nat) (ns : List ByteArray) (B : Option Addr) (d : Nat) (e1 e2 e3 : ByteArray) (w : World) (hG : GW w)
    (hC : Kd.C k37 w A cs.length cs) (hN : Kd.C Kd.string w B ns.length ns) (hok : ∀ y ∈ cs, okC y) (h1 : e1.size ≤ 9223372036854775807) (h2 : e2.size ≤ 9223372036854775807) :
    Calls Tryd.prog 9 #[T27V cs.length A c ns.length B d e1 e2 e3] w fun e w' => e = .returned (.int .i64 (rightP f cs ns e1 e2 e3)) ∧ Below w.heap.size w w' := by
  have hB : Below w.heap.size w (w.alloc (.cells #[.slice A cs.length c, .slice B ns.length d, .string e1, .string e2, .string e3] 27)) := (Below.refl _ _).alloc (Nat.le_refl _) _
  have hbox : (w.alloc (.cells #[.slice A cs.length c, .slice B ns.length d, .string e1, .string e2, .string e3] 27)).heap[w.heap.size]? = some (.cells #[.slice A cs.length c, .slice B ns.length d, .string e1, .string e2, .string e3] 27 (0, 0)) := al_new' w _
  have H1 := hid (fun w' (hb : Below w.heap.size w w') => longP_calls cs A c ns B d e1 e2 e3 w' (Kd.C_below hC hb) (Kd.C_below hN hb))
  have H2 := hid (fun w' (hb : Below w.heap.size w w') => each37_35 clsB cs A c w' (Kd.C_below hC hb) (fun w2 hb2 x hx A4 c4 A5 c5 A6 c6 _ g4 _ g5 _ g6 => cls_calls x A4 c4 A5 c5 A6 c6 w2 ((hG.below hb).below hb2) (hok x hx) g4 g5 g6))
  have H3 := hid (fun w' => ent_calls e1 e2 e3 h1 h2 w')
  have H4 := hid (fun w' (hb : Below w.heap.size w w') => ordP_calls hf cs A c ns B d e1 e2 e3 w' (Kd.C_below hC hb))
  have hr : Hid (errP (longP cs ns) (cs.all clsB) (entB e1 e2 e3) (ordP f cs) = rightP f cs ns e1 e2 e3) := hid rfl
  generalize rightP f cs ns e1 e2 e3 = r at *
  generalize longP cs ns = q1 at *
  generalize cs.all clsB = q2 at *
  generalize entB e1 e2 e3 = q3 at *
  generalize ordP f cs = q4 at *
  clear hC hN
  go_enter Tryd.func9, Tryd.ntmps9
  go_wp2_with (first
    | (go_at_call 33; refine (H1.out _ hB).mono ?_; rintro e w1 ⟨rfl, hb1⟩
       have hk := box_keep (w0 := w) hbox hb1
       have k0 := boxc hk 0 rfl
       have k1 := boxc hk 1 rfl
       have k2 := boxc hk 2 rfl
       have k3 := boxc hk 3 rfl
       have k4 := boxc hk 4 rfl
       replace hB := hB.trans (hb1.mono hB.size))
    | (go_at_call 34; refine (H2.out _ hB).mono ?_; rintro e w2 ⟨rfl, hb2⟩
       have hk2 := box_keep (w0 := w) hk hb2
       have k0 := boxc hk2 0 rfl
       have k1 := boxc hk2 1 rfl
       have k2 := boxc hk2 2 rfl
       have k3 := boxc hk2 3 rfl
       have k4 := boxc hk2 4 rfl
       replace hB := hB.trans (hb2.mono hB.size))
    | (go_at_call 36; refine (H3.out _).mono ?_; rintro e w3 ⟨rfl, hb3⟩
       have hk3 := box_keep (w0 := w) hk2 hb3
       have k0 := boxc hk3 0 rfl
       have k1 := boxc hk3 1 rfl
       have k2 := boxc hk3 2 rfl
       have k3 := boxc hk3 3 rfl
       have k4 := boxc hk3 4 rfl
       replace hB := hB.trans (hb3.mono hB.size))
    | (go_at_call 37; refine (H4.out _ hB).mono ?_; rintro e w4 ⟨rfl, hb4⟩
       replace hB := hB.trans (hb4.mono hB.size)))
  all_goals
    go_ret
    refine ⟨ret_int' ?_, hB⟩
    try rw [← hr.out]
    clear hr H1 H2 H3 H4 hB hbox
    simp_all [errP]
end Go.Proofs.YtmamaijiphdggaaDoor.Given
