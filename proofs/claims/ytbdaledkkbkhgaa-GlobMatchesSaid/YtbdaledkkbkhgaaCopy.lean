/- 'copy(out, xs)' of a row of the call's own, as long as what is copied. -/
import Derived.Test.YtbdaledkkbkhgaaWWords
import Derived.Laws.CopyOwn
namespace Go.Proofs.Ytbdaledkkbkhgaa.Given
open Go.RowKit Go.Proofs.YtbdaledkkbkhgaaW.PrintWords
section
variable {P : Program} {ops : Array Oper} {rest : List Oper} {o : Oper} {a : Act} {Q : Exit → Act → World → Prop}
theorem R_copy {α : Type} (enc : α → Value) (z : α) {h1 : ∀ x : α, (enc x).oneCell' = true} {w0 W : World} (base : Nat) (hgd : o.guard = none) (d s : Operand) (dT sT e : TypeId)
    (ho : o.op = .call { callee := .builtin .copy, args := #[d, s], argTypes := #[dT, sT] })
    (hu : P.underlying dT = some (.slice e)) (hsz : (P.info? e).map (·.size) = some 1)
    (v : Value) (xs ys : List α) (A : Option Addr) (m c : Nat) (ok : Nat → Prop) (hd : a.eval d = v) (hs : a.eval s = .slice A m c)
    (HO : (Kd.scalar enc h1).R e W base ok v xs) (HR : (Kd.scalar enc h1).C W A m ys) (hl : xs.length = m) (HB : Below base w0 W)
    (h : ∀ w1, (Kd.scalar enc h1).R e w1 base ok v ys → Below base w0 w1 → wpList P ops Q rest (a.put o.dst (goInt m)) w1) :
    wpList P ops Q (o :: rest) a W := by
  have hr := Kd.reads_of_C (d := z) HR
  have hown := Kd.own_of_R HO
  obtain ⟨hy, _, hcell⟩ := hr
  obtain ⟨hlen, hv⟩ := hown
  rcases hv with ⟨rfl, h0⟩ | ⟨g, cap, cur, rfl, hb, hh, hn, hcap, hcs, htk⟩
  · have hm0 : m = 0 := by omega
    subst hm0
    obtain rfl : ys = [] := List.eq_nil_of_length_eq_zero hy
    obtain rfl : xs = [] := List.eq_nil_of_length_eq_zero hl
    exact wpList_copy_nothing hgd d s dT sT ho e hu hsz none A 0 0 0 c hd hs (by simp) (h W HO HB)
  · have hcl : (encs enc ys).length = m := by simp [encs, hy]
    subst hl
    refine wpList_copy_splice hgd d s dT sT ho e hu hsz (some ⟨g, 0, none⟩) A xs.length cap xs.length c hd hs g 0 cur.toList e (by simpa using hh) (encs enc ys) (by rw [hcl]; simp) ?_ (by rw [hcl]; simp; omega) ?_ base w0 HB hb ?_
    · intro hp
      rw [hcl] at hp
      obtain ⟨ad, e1, hc⟩ := hcell hp
      refine ⟨rfl, ad, e1, fun j u hu => ?_⟩
      have hj : j < ys.length := by
        rcases Nat.lt_or_ge j ys.length with hj | hj
        · exact hj
        · rw [List.getElem?_eq_none (by simp [encs]; omega)] at hu; cases hu
      have := hc j (by omega)
      rw [this]
      simp [encs, hj] at hu
      simp [List.getD, hj, hu]
    · intro u hu
      simp [encs] at hu
      obtain ⟨x, _, rfl⟩ := hu
      exact h1 x
    · intro w1 hg1 hb1
      have hg2 := show w1.heap[g]? = _ from hg1
      rw [hcl]
      refine h w1 (Kd.R_of_own ⟨by simp [encs], .inr ⟨g, cap, _, ?_, hb, hg2, by omega, hcap, ?_, ?_⟩⟩ HO.1) hb1
      · rw [hy]
      · have := length_splice cur.toList 0 (encs enc ys) (by rw [hcl]; simp; omega)
        simp at this ⊢
        omega
      · simp [splice, encs, hy]
end
end Go.Proofs.Ytbdaledkkbkhgaa.Given
