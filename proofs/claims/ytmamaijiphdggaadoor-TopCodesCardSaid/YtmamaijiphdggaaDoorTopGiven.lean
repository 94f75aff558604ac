/- norm.Right and norm.Strings, as the printed text takes them. -/
import Derived.Test.YtmamaijiphdggaaDoorStrings
import Derived.Test.YtmamaijiphdggaaDoorCompare
namespace Go.Proofs.YtmamaijiphdggaaDoor.Given
set_option linter.unusedVariables false
set_option linter.unusedSimpArgs false
open Go.RowKit Go.Lib
open Go.Proofs.YtmamaijiphdggaaDoorW.PrintWords
def cmpB (a b : ByteArray) : Int := Lib.compareBytes a.data.toList b.data.toList
theorem cmpB_ok : Cmp cmpB := fun a b w => (Tryd.strings_Compare a b w).mono fun e w' h => ⟨h.1, h.2⟩
def okIB (y : S44) : Bool := decide (y.f8.length ≤ 1000000) && (decide (y.f7.size ≤ 140737488351232) && (decide (y.f5.size ≤ 140737488351232) && decide (y.f6.size ≤ 140737488351232)))
def okMB (x : S40) : Bool := decide (x.f0.size ≤ 140737488351232) && (decide (x.f1.size ≤ 140737488351232) && x.f5.all okIB)
def okFB (x : S83) : Bool := decide (x.f0.size ≤ 9223372036854775807) && decide (x.f1.f1.size ≤ 9223372036854775807)
def okCB (x : S37) : Bool := decide (x.f0.size ≤ 9223372036854775807) && (decide (x.f1.size ≤ 9223372036854775807) && (x.f4.all (fun s => decide (s.size ≤ 9223372036854775807)) && (x.f5.all okFB && x.f6.all okMB)))
theorem okI_of {y : S44} : okIB y = true ↔ okI y := by simp [okIB, okI]
theorem okM_of {x : S40} : okMB x = true ↔ okM x := by simp [okMB, okM, okI_of]
theorem okF_of {x : S83} : okFB x = true ↔ okF x := by simp [okFB, okF]
theorem okC_of {x : S37} : okCB x = true ↔ okC x := by simp [okCB, okC, okF_of, okM_of]
def okP (cs : List S37) (a b : ByteArray) : Bool := cs.all okCB && (decide (a.size ≤ 9223372036854775807) && decide (b.size ≤ 9223372036854775807))
def okSB (x : S37) : Bool := decide (x.f4.length ≤ 1000) && (decide (x.f5.length ≤ 1000) && (decide (x.f6.length ≤ 1000) && (x.f5.all (fun f => decide (f.f1.f1.size ≤ 1000000)) && x.f6.all (fun m => decide (m.f5.length ≤ 1000)))))
theorem okS_of {x : S37} : okSB x = true ↔ okS x := by simp [okSB, okS]
def okSP (cs : List S37) (ns : List ByteArray) : Bool := cs.all okSB && (decide (cs.length ≤ 100) && decide (ns.length ≤ 1000))
theorem right_given (cs : List S37) (A : Option Addr) (c : Nat) (ns : List ByteArray) (B : Option Addr) (d : Nat) (e1 e2 e3 : ByteArray) (w : World) (hG : GW w)
    (hC : Kd.C k37 w A cs.length cs) (hN : Kd.C Kd.string w B ns.length ns) (hok : okP cs e1 e2 = true) :
    Calls Tryd.prog 9 #[T27V cs.length A c ns.length B d e1 e2 e3] w fun e w' => e = .returned (.int .i64 (rightP cmpB cs ns e1 e2 e3)) ∧ Below w.heap.size w w' := by
  simp only [okP, Bool.and_eq_true, List.all_eq_true, decide_eq_true_eq] at hok
  exact rightP_calls cmpB_ok cs A c ns B d e1 e2 e3 w hG hC hN (fun y hy => okC_of.1 (hok.1 y hy)) hok.2.1 hok.2.2
theorem strings_given (cs : List S37) (A : Option Addr) (c : Nat) (ns : List ByteArray) (B : Option Addr) (d : Nat) (e1 e2 e3 : ByteArray) (w : World)
    (hC : Kd.C k37 w A cs.length cs) (hN : Kd.C Kd.string w B ns.length ns) (hok : okSP cs ns = true) :
    Calls Tryd.prog 12 #[T27V cs.length A c ns.length B d e1 e2 e3] w fun e w' => ∃ v, e = .returned v ∧ Kd.string.R 9 w' w.heap.size (fun _ => True) v (strsS cs ns e1 e2 e3) ∧ Below w.heap.size w w' := by
  simp only [okSP, Bool.and_eq_true, List.all_eq_true, decide_eq_true_eq] at hok
  exact strings_calls cs A c ns B d e1 e2 e3 w hC hN (fun y hy => okS_of.1 (hok.1 y hy)) hok.2.1 hok.2.2
end Go.Proofs.YtmamaijiphdggaaDoor.Given
