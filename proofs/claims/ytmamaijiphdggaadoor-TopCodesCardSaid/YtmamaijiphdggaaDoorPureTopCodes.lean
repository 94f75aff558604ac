/- The plain law of TopCodes. -/
import Derived.Test.YtmamaijiphdggaaDoorTopTold
import Derived.Test.YtmamaijiphdggaaDoorTopGreat
import Derived.Test.YtmamaijiphdggaaDoorOpenP
import Derived.Test.YtmamaijiphdggaaDoorPTopx5
namespace Go.Proofs.YtmamaijiphdggaaDoor.TopMath
open Go.RowKit Go.Proofs.YtmamaijiphdggaaDoor.PTop Go.Proofs.YtmamaijiphdggaaDoor.Given Go.Proofs.YtmamaijiphdggaaDoorW.PrintWords Go.Proofs.YtmamaijiphdggaaDoorW.PrintLast Go.Proofs.YtmamaijiphdggaaDoorW.PrintMore
set_option linter.unusedVariables false
set_option linter.unusedSimpArgs false

/-! ### what a program that can be says of its instructions -/
theorem right_zero {f : ByteArray → ByteArray → Int} {cs : List S37} {ns : List ByteArray} {e1 e2 e3 : ByteArray} (h : rightP f cs ns e1 e2 e3 = 0) : cs.all clsB = true := by
  unfold rightP errP at h
  split at h
  · omega
  · split at h
    · omega
    · rename_i h2
      simpa using h2
theorem cls_instr {x : S37} (h : clsB x = true) {m : S40} (hm : m ∈ x.f6) {y : S44} (hy : y ∈ m.f5) : fitsB y.f0 y.f1 y.f2 y.f3 y.f4 y.f5 y.f6 y.f7 y.f8 m.f4 m.f5.length = 0 := by
  unfold clsB at h
  simp only [Bool.and_eq_true, List.all_eq_true] at h
  have h1 := h.2.2.2.2 m hm
  unfold clsM methodB at h1
  simp only [Bool.and_eq_true] at h1
  have h2 := h1.1.2
  split at h2
  · unfold abstractB at h2
    simp only [Bool.and_eq_true, decide_eq_true_eq] at h2
    rw [List.eq_nil_of_length_eq_zero h2.2.2.1] at hy
    cases hy
  · unfold concreteB at h2
    simp only [Bool.and_eq_true, List.all_eq_true] at h2
    have h3 := h2.2.2 y hy
    unfold instrOk at h3
    simpa using h3
theorem cls_field {x : S37} (h : clsB x = true) {f : S83} (hf : f ∈ x.f5) : f.f1.f1.size ≤ 1000000 := by
  unfold clsB at h
  simp only [Bool.and_eq_true, List.all_eq_true] at h
  have h1 := h.2.2.2.1 f hf
  unfold fldB at h1
  simp only [Bool.and_eq_true] at h1
  have h2 := h1.2.2.1
  unfold rightT at h2
  split at h2
  · unfold ofB at h2
    simp only [Bool.and_eq_true, decide_eq_true_eq] at h2
    omega
  · simp only [Bool.and_eq_true] at h2
    have h3 := h2.1
    rw [toList_nil] at h3
    have h4 := beq_iff_eq.1 h3
    omega
/-! ### the strings -/
theorem str_in {cs : List S37} {ns : List ByteArray} {e1 e2 e3 : ByteArray} {x : S37} (hx : x ∈ cs) {m : S40} (hm : m ∈ x.f6) {y : S44} (hy : y ∈ m.f5) {s : ByteArray} (hs : s ∈ [y.f5, y.f6, y.f7]) (hn : ¬ s.toList = []) : s ∈ strsS cs ns e1 e2 e3 := by
  have hne : nonE s = true := by unfold nonE; simp [hn]
  have h1 : s ∈ instrS y := List.mem_filter.2 ⟨hs, hne⟩
  have h2 : s ∈ methS m := List.mem_append_right _ (List.mem_flatMap.2 ⟨y, hy, h1⟩)
  have h3 : s ∈ clsS x := by
    unfold clsS
    exact List.mem_append_right _ (List.mem_append_right _ (List.mem_append_right _ (List.mem_append_right _ (List.mem_flatMap.2 ⟨m, hm, h2⟩))))
  exact List.mem_append_left _ (List.mem_flatMap.2 ⟨x, hx, h3⟩)
theorem strs_len {cs : List S37} {ns : List ByteArray} {e1 e2 e3 : ByteArray} (h : okSP cs ns = true) : (strsS cs ns e1 e2 e3).length ≤ 1000000000 := by
  simp only [okSP, Bool.and_eq_true, List.all_eq_true, decide_eq_true_eq] at h
  have h1 := clss_len cs (fun x hx => okS_of.1 (h.1 x hx))
  have h2 : (entS e1 e2 e3).length ≤ 3 := by unfold entS; split <;> simp
  have h3 := h.2
  unfold strsS
  rw [List.length_append, List.length_append]
  omega
theorem rdOf_at (l : List ByteArray) (i : Nat) (h : i < l.length) : rdOf ByteArray.empty l (i : Int) = l[i] := by simp [rdOf, List.getD, List.getElem?_eq_getElem h]
theorem in_ev (l : List ByteArray) (hl : l.length ≤ 1000000000) (s : ByteArray) (h : ¬ s.toList = [] → s ∈ l) : Ev (fun k => secateurtop_in.f k l s) true := by
  by_cases hs : s.toList = []
  · exact Ev.congr (f := fun _ => some true) (fun k => by unfold secateurtop_in.f; rw [if_pos hs]) (Ev.now _)
  · have hm := h hs
    have loop : ∀ d i, l.length - i = d → i ≤ l.length → s ∈ l.drop i → Ev (fun k => secateurtop_in.l0 k l s (i : Int)) true := by
      intro d
      induction d with
      | zero =>
        intro i hd hi hin
        rw [List.drop_eq_nil_of_le (by omega)] at hin
        cases hin
      | succ d ih =>
        intro i hd hi hin
        have hlt : i < l.length := by omega
        by_cases he : l[i].toList = s.toList
        · refine Ev.step (f := fun _ => some true) (fun k => ?_) (Ev.now _)
          rw [secateurtop_in.l0, if_pos (by omega), if_pos (by omega), rdOf_at l i hlt, if_pos he]
        · rw [drop_cons hlt] at hin
          rcases List.mem_cons.1 hin with rfl | hin
          · exact absurd rfl he
          · refine Ev.step (f := fun k => secateurtop_in.l0 k l s ((i + 1 : Nat) : Int)) (fun k => ?_) (ih (i + 1) (by omega) (by omega) hin)
            rw [secateurtop_in.l0, if_pos (by omega), if_pos (by omega), rdOf_at l i hlt, if_neg he, wrap_next i (by omega)]
    refine Ev.congr (f := fun k => secateurtop_in.l0 k l s 0) (fun k => by unfold secateurtop_in.f; rw [if_neg hs]) (loop _ 0 rfl (Nat.zero_le _) (by simpa using hm))
/-! ### the loops -/
section
variable (cs : List S37) (ns : List ByteArray) (e1 e2 e3 : ByteArray) (L : List ByteArray)
theorem codes_j6 (a b : Int) (x : Nat) (m0 m1 : ByteArray) (m2 m3 : Bool) (m4 : Int) (m5 : List S44) (hx : x < m5.length) (hm : m5.length ≤ 1000) (hL : L.length ≤ 1000000000)
    (h5 : ¬ m5[x].f5.toList = [] → m5[x].f5 ∈ L) (h6 : ¬ m5[x].f6.toList = [] → m5[x].f6 ∈ L) (h7 : ¬ m5[x].f7.toList = [] → m5[x].f7 ∈ L)
    (H : Ev (fun k => secateurtop_TopCodes.l2 k true L a b ((x + 1 : Nat) : Int) cs ns e1 e2 e3 m0 m1 m2 m3 m4 m5) true) :
    Ev (fun k => secateurtop_TopCodes.j6 k true L a b (x : Int) false cs ns e1 e2 e3 m0 m1 m2 m3 m4 m5) true := by
  refine Ev.step (f := fun k => (secateurtop_in.f k L m5[x].f5).bind fun t170 => (if t170 = true then ((secateurtop_in.f k L m5[x].f6).bind fun t172 => (if t172 = true then ((secateurtop_in.f k L m5[x].f7).bind fun t174 => (if t174 = true then (secateurtop_TopCodes.l2 k true L a b ((x + 1 : Nat) : Int) cs ns e1 e2 e3 m0 m1 m2 m3 m4 m5) else (some false))) else (some false))) else (some false))) (fun k => ?_) ?_
  · rw [secateurtop_TopCodes.j6, if_neg (by decide), if_pos (by omega), if_pos (by omega), rdT44 m5 x hx, wrap_next x (by omega)]
  · exact Ev.bind (in_ev L hL _ h5) (Ev.bind (in_ev L hL _ h6) (Ev.bind (in_ev L hL _ h7) H))
theorem codes_l3 (a b : Int) (x : Nat) (U : List Int) (m0 m1 : ByteArray) (m2 m3 : Bool) (m4 : Int) (m5 : List S44) (hx : x < m5.length) (hm : m5.length ≤ 1000) (hU : U.length ≤ 1000000)
    (hu : ∀ u ∈ U, 0 ≤ u ∧ u < m4) (z1 : Int) (z2 : Bool) (hS : Ev (fun k => op_Sets.f k m5[x].f0 m5[x].f1 m5[x].f2 m5[x].f3 m5[x].f4 m5[x].f5 m5[x].f6 m5[x].f7 m5[x].f8) (z1, z2)) (hz : z2 = true → 0 ≤ z1 ∧ z1 < m4)
    (H : Ev (fun k => secateurtop_TopCodes.j6 k true L a b (x : Int) false cs ns e1 e2 e3 m0 m1 m2 m3 m4 m5) true) :
    ∀ d i, U.length - i = d → i ≤ U.length → Ev (fun k => secateurtop_TopCodes.l3 k true L a b (x : Int) U (i : Int) cs ns e1 e2 e3 m0 m1 m2 m3 m4 m5) true := by
  intro d
  induction d with
  | zero =>
    intro i hd hi
    refine Ev.step (f := fun k => (op_Sets.f k m5[x].f0 m5[x].f1 m5[x].f2 m5[x].f3 m5[x].f4 m5[x].f5 m5[x].f6 m5[x].f7 m5[x].f8).bind fun bt167 => (if bt167.2 = true then (if bt167.1 < 0 then (secateurtop_TopCodes.j6 k true L a b (x : Int) true cs ns e1 e2 e3 m0 m1 m2 m3 m4 m5) else (secateurtop_TopCodes.j6 k true L a b (x : Int) (decide (bt167.1 ≥ m4)) cs ns e1 e2 e3 m0 m1 m2 m3 m4 m5)) else (secateurtop_TopCodes.j6 k true L a b (x : Int) false cs ns e1 e2 e3 m0 m1 m2 m3 m4 m5))) (fun k => ?_) (Ev.bind hS ?_)
    · rw [secateurtop_TopCodes.l3, if_neg (by omega), if_pos (by omega), if_pos (by omega), rdT44 m5 x hx]
    · cases z2 with
      | true =>
        have := hz rfl
        refine Ev.congr (fun k => ?_) H
        simp only [if_true]
        rw [if_neg (by omega), decide_eq_false (by omega)]
      | false => exact H
  | succ d ih =>
    intro i hd hi
    have hlt : i < U.length := by omega
    have hur := hu U[i] (List.getElem_mem hlt)
    refine Ev.step (f := fun k => secateurtop_TopCodes.l3 k true L a b (x : Int) U ((i + 1 : Nat) : Int) cs ns e1 e2 e3 m0 m1 m2 m3 m4 m5) (fun k => ?_) (ih (i + 1) (by omega) (by omega))
    rw [secateurtop_TopCodes.l3, if_pos (by omega), if_pos (by omega), rd_at U i hlt, if_neg (by omega), if_neg (by omega), wrap_next i (by omega)]
theorem uses_len (s : ByteArray) (o a b c : Int) (l : List Int) (hl : l.length ≤ 60) : (usesB s o a b c l).length ≤ 1000000 := by
  unfold usesB oneIf
  simp only [List.length_append]
  have h1 : (if o = 14 then [a] else ([] : List Int)).length ≤ 1 := by split <;> simp
  have h2 : (if hasC s 98 = true then [b] else ([] : List Int)).length ≤ 1 := by split <;> simp
  have h3 : (if hasC s 99 = true then [c] else ([] : List Int)).length ≤ 1 := by split <;> simp
  have h4 : (if hasC s 118 = true then l else ([] : List Int)).length ≤ 60 := by
    split
    · exact hl
    · simp
  omega
/-- An instruction is as it must be. -/
def GoodI (L : List ByteArray) (regs code : Int) (y : S44) : Prop :=
  shI y = true ∧ fitsB y.f0 y.f1 y.f2 y.f3 y.f4 y.f5 y.f6 y.f7 y.f8 regs code = 0 ∧ (¬ y.f5.toList = [] → y.f5 ∈ L) ∧ (¬ y.f6.toList = [] → y.f6 ∈ L) ∧ (¬ y.f7.toList = [] → y.f7 ∈ L)
theorem codes_l2 (a : Nat) (b : Nat) (m0 m1 : ByteArray) (m2 m3 : Bool) (m4 : Int) (m5 : List S44) (hm : m5.length ≤ 1000) (hL : L.length ≤ 1000000000) (hy : ∀ y ∈ m5, GoodI L m4 m5.length y)
    (H : Ev (fun k => secateurtop_TopCodes.l1 k true L (a : Int) (wrap64 ((b : Int) + 1)) cs ns e1 e2 e3) true) :
    ∀ d i, m5.length - i = d → i ≤ m5.length → Ev (fun k => secateurtop_TopCodes.l2 k true L (a : Int) (b : Int) (i : Int) cs ns e1 e2 e3 m0 m1 m2 m3 m4 m5) true := by
  intro d
  induction d with
  | zero =>
    intro i hd hi
    refine Ev.step (f := fun k => secateurtop_TopCodes.l1 k true L (a : Int) (wrap64 ((b : Int) + 1)) cs ns e1 e2 e3) (fun k => ?_) H
    rw [secateurtop_TopCodes.l2, if_neg (by omega)]
  | succ d ih =>
    intro i hd hi
    have hlt : i < m5.length := by omega
    obtain ⟨sh, hf, g5, g6, g7⟩ := hy m5[i] (List.getElem_mem hlt)
    simp only [shI, Bool.and_eq_true, decide_eq_true_eq] at sh
    have F := (fits_iff ..).1 hf
    have eU := opUses_ref m5[i].f0 m5[i].f1 m5[i].f2 m5[i].f3 m5[i].f4 m5[i].f5 m5[i].f6 m5[i].f7 m5[i].f8 sh.1
    have eS := opSets_ref m5[i].f0 m5[i].f1 m5[i].f2 m5[i].f3 m5[i].f4 m5[i].f5 m5[i].f6 m5[i].f7 m5[i].f8 sh.2.2.2
    have J := codes_j6 cs ns e1 e2 e3 L (a : Int) (b : Int) i m0 m1 m2 m3 m4 m5 hlt hm hL g5 g6 g7 (ih (i + 1) (by omega) (by omega))
    have T := codes_l3 cs ns e1 e2 e3 L (a : Int) (b : Int) i _ m0 m1 m2 m3 m4 m5 hlt hm (uses_len _ _ _ _ _ _ sh.1) F.uses _ _ eS F.sets J _ 0 rfl (Nat.zero_le _)
    refine Ev.step (f := fun k => (op_Uses.f k m5[i].f0 m5[i].f1 m5[i].f2 m5[i].f3 m5[i].f4 m5[i].f5 m5[i].f6 m5[i].f7 m5[i].f8).bind fun t161 => secateurtop_TopCodes.l3 k true L (a : Int) (b : Int) (i : Int) t161 0 cs ns e1 e2 e3 m0 m1 m2 m3 m4 m5) (fun k => ?_) (Ev.bind eU T)
    rw [secateurtop_TopCodes.l2, if_pos (by omega), if_pos (by omega), rdT44 m5 i hlt]
def GoodC (L : List ByteArray) (x : S37) : Prop := x.f6.length ≤ 1000 ∧ ∀ m ∈ x.f6, m.f5.length ≤ 1000 ∧ ∀ y ∈ m.f5, GoodI L m.f4 m.f5.length y
theorem codes_l1 (a : Nat) (ha : a < cs.length) (hL : L.length ≤ 1000000000) (hx : GoodC L cs[a]) (H : Ev (fun k => secateurtop_TopCodes.l0 k true L (wrap64 ((a : Int) + 1)) cs ns e1 e2 e3) true) :
    ∀ d i, cs[a].f6.length - i = d → i ≤ cs[a].f6.length → Ev (fun k => secateurtop_TopCodes.l1 k true L (a : Int) (i : Int) cs ns e1 e2 e3) true := by
  intro d
  have h6 := hx.1
  induction d with
  | zero =>
    intro i hd hi
    refine Ev.step (f := fun k => secateurtop_TopCodes.l0 k true L (wrap64 ((a : Int) + 1)) cs ns e1 e2 e3) (fun k => ?_) H
    rw [secateurtop_TopCodes.l1, if_pos (by omega), if_pos (by omega), rdT37 cs a ha, if_neg (by omega)]
  | succ d ih =>
    intro i hd hi
    have hlt : i < cs[a].f6.length := by omega
    have hM := hx.2 cs[a].f6[i] (List.getElem_mem hlt)
    have hw := wrap_next i (by omega)
    have T := codes_l2 cs ns e1 e2 e3 L a i cs[a].f6[i].f0 cs[a].f6[i].f1 cs[a].f6[i].f2 cs[a].f6[i].f3 cs[a].f6[i].f4 cs[a].f6[i].f5 hM.1 hL hM.2 (by rw [hw]; exact ih (i + 1) (by omega) (by omega)) _ 0 rfl (Nat.zero_le _)
    refine Ev.step (fun k => ?_) T
    rw [secateurtop_TopCodes.l1, if_pos (by omega), if_pos (by omega), rdT37 cs a ha, if_pos (by omega), if_pos (by omega), rdT40 _ i hlt]
    rfl
theorem codes_l0 (hc : cs.length ≤ 1000) (hL : L.length ≤ 1000000000) (hx : ∀ x ∈ cs, GoodC L x) : ∀ d i, cs.length - i = d → i ≤ cs.length → Ev (fun k => secateurtop_TopCodes.l0 k true L (i : Int) cs ns e1 e2 e3) true := by
  intro d
  induction d with
  | zero =>
    intro i hd hi
    refine Ev.step (f := fun _ => some true) (fun k => ?_) (Ev.now _)
    rw [secateurtop_TopCodes.l0, if_neg (by omega)]
  | succ d ih =>
    intro i hd hi
    have hlt : i < cs.length := by omega
    have hw := wrap_next i (by omega)
    have T := codes_l1 cs ns e1 e2 e3 L i hlt hL (hx _ (List.getElem_mem hlt)) (by rw [hw]; exact ih (i + 1) (by omega) (by omega)) _ 0 rfl (Nat.zero_le _)
    refine Ev.step (fun k => ?_) T
    rw [secateurtop_TopCodes.l0, if_pos (by omega)]
    rfl
end
/-! ### the whole -/
theorem okC_small {x : S37} (hg : g37 x) (hs : shC x = true ∧ sMs x.f6) : okCB x = true := by
  have em : maxLen = 9223372036854775807 := rfl
  obtain ⟨a1, a2, a3, a4, a5⟩ := hg
  refine okC_of.2 ⟨by omega, by omega, fun s hss => by have := a3 s hss; omega, fun f hf => ?_, fun m hm => ?_⟩
  · have := a4 f hf
    have h1 := this.1
    have h2 : f.f1.f1.size ≤ maxLen := this.2
    exact ⟨by omega, by omega⟩
  · obtain ⟨b1, b2⟩ := hs.2 m hm
    simp only [shM, Bool.and_eq_true, decide_eq_true_eq] at b1
    refine ⟨by omega, by omega, fun y hy => ?_⟩
    have := b2 y hy
    simp only [shI, Bool.and_eq_true, decide_eq_true_eq] at this
    exact ⟨by omega, by omega, by omega, by omega⟩
theorem okS_small {x : S37} (hc : clsB x = true) (hs : shC x = true ∧ sMs x.f6) : okSB x = true := by
  obtain ⟨h1, h2⟩ := hs
  simp only [shC, Bool.and_eq_true, decide_eq_true_eq] at h1
  refine okS_of.2 ⟨by omega, by omega, by omega, fun f hf => cls_field hc hf, fun m hm => ?_⟩
  have := (h2 m hm).1
  simp only [shM, Bool.and_eq_true, decide_eq_true_eq] at this
  omega
theorem right_none : norm_Right.f ([] : List S37) ([] : List ByteArray) (⟨#[]⟩ : ByteArray) (⟨#[]⟩ : ByteArray) (⟨#[]⟩ : ByteArray) = some 0 := by decide +kernel
theorem shape_get : (op_Shape.f 15).bind (fun t => some (t.toList == ([97, 98, 70] : List UInt8))) = some true := by decide +kernel
theorem topCodes_ev (cs : List S37) (ns : List ByteArray) (e1 e2 e3 : ByteArray) (hg : ∀ x ∈ cs, g37 x) (h1 : e1.size ≤ maxLen) (h2 : e2.size ≤ maxLen) :
    Ev (fun k => secateurtop_TopCodes.g k cs ns e1 e2 e3) true := by
  have em : maxLen = 9223372036854775807 := rfl
  have jt : Ev (fun k => secateurtop_TopCodes.j1 k true true cs ns e1 e2 e3) true := Ev.step (f := fun _ => some true) (fun k => by rw [secateurtop_TopCodes.j1, if_pos rfl]) (Ev.now _)
  have j0 : Ev (fun k => secateurtop_TopCodes.j0 k true cs ns e1 e2 e3) true := by
    obtain ⟨r, er, hr⟩ := great_says cs ns e1 e2 e3
    refine Ev.step (f := fun k => (secateurlaw08_Great.f k cs ns e1 e2 e3).bind fun t151 => (if t151 = true then (secateurtop_TopCodes.j1 k true true cs ns e1 e2 e3) else ((norm_Right.f cs ns e1 e2 e3).bind fun t152 => (secateurtop_TopCodes.j1 k true (t152 != 0) cs ns e1 e2 e3)))) (fun k => by rw [secateurtop_TopCodes.j0]) (Ev.bind er ?_)
    cases r with
    | true => exact jt
    | false =>
      obtain ⟨q1, q2, q3⟩ := hr rfl
      have ok : okP cs e1 e2 = true := by
        simp only [okP, Bool.and_eq_true, List.all_eq_true, decide_eq_true_eq]
        exact ⟨fun x hx => okC_small (hg x hx) (q3 x hx), by omega, by omega⟩
      have eR : norm_Right.f cs ns e1 e2 e3 = some (rightP cmpB cs ns e1 e2 e3) := by unfold norm_Right.f; rw [if_pos ok]
      refine Ev.congr (f := fun k => secateurtop_TopCodes.j1 k true (rightP cmpB cs ns e1 e2 e3 != 0) cs ns e1 e2 e3) (fun k => by rw [if_neg (by decide), eR]; rfl) ?_
      by_cases hz : rightP cmpB cs ns e1 e2 e3 = 0
      · have hcl := List.all_eq_true.1 (right_zero hz)
        have okS : okSP cs ns = true := by
          simp only [okSP, Bool.and_eq_true, List.all_eq_true, decide_eq_true_eq]
          exact ⟨fun x hx => okS_small (hcl x hx) (q3 x hx), by omega, by omega⟩
        have eS : norm_Strings.f cs ns e1 e2 e3 = some (strsS cs ns e1 e2 e3) := by unfold norm_Strings.f; rw [if_pos okS]
        have T := codes_l0 cs ns e1 e2 e3 (strsS cs ns e1 e2 e3) (by omega) (strs_len okS) (fun x hx => ?_) _ 0 rfl (Nat.zero_le _)
        · rw [hz]
          exact Ev.step (fun k => by rw [secateurtop_TopCodes.j1, if_neg (by decide), eS]; rfl) T
        · obtain ⟨s1, s2⟩ := q3 x hx
          simp only [shC, Bool.and_eq_true, decide_eq_true_eq] at s1
          refine ⟨by omega, fun m hm => ?_⟩
          obtain ⟨t1, t2⟩ := s2 m hm
          simp only [shM, Bool.and_eq_true, decide_eq_true_eq] at t1
          refine ⟨by omega, fun y hy => ⟨t2 y hy, cls_instr (hcl x hx) hm hy, fun hn => str_in hx hm hy (by simp) hn, fun hn => str_in hx hm hy (by simp) hn, fun hn => str_in hx hm hy (by simp) hn⟩⟩
      · rw [bne_iff_ne.2 hz]
        exact jt
  have hs := shape_get
  cases hsh : op_Shape.f 15 with
  | none => rw [hsh] at hs; cases hs
  | some t =>
    rw [hsh] at hs
    have ht : (t.toList == ([97, 98, 70] : List UInt8)) = true := Option.some.inj hs
    refine Ev.congr (f := fun k => secateurtop_TopCodes.j0 k true cs ns e1 e2 e3) (fun k => ?_) j0
    unfold secateurtop_TopCodes.g
    rw [right_none, hsh]
    simp only [Option.bind_some, if_true]
    rw [ht]
end Go.Proofs.YtmamaijiphdggaaDoor.TopMath
namespace Go.Proofs.YtmamaijiphdggaaDoor.Pure
open Go.Proofs.YtmamaijiphdggaaDoor.PTop Go.Proofs.YtmamaijiphdggaaDoor.Given
theorem TopCodes (cs : List S37) (ns : List ByteArray) (e1 e2 e3 : ByteArray) (hg : ∀ x ∈ cs, g37 x) (h1 : e1.size ≤ maxLen) (h2 : e2.size ≤ maxLen) : ∃ k, secateurtop_TopCodes.f k cs ns e1 e2 e3 = some true := by
  obtain ⟨k, hk⟩ := (TopMath.topCodes_ev cs ns e1 e2 e3 hg h1 h2).rounds
  exact ⟨k, by unfold secateurtop_TopCodes.f; rw [hk]; rfl⟩
end Go.Proofs.YtmamaijiphdggaaDoor.Pure
