/- The plain law of OpWithin. -/
import Derived.Test.YtmamaijiphdggaaDoorTold
import Derived.Test.YtmamaijiphdggaaDoorPOpx14
namespace Go.Proofs.YtmamaijiphdggaaDoor.Pure
open Go.RowKit Go.Proofs.YtmamaijiphdggaaDoor.POp Go.Proofs.YtmamaijiphdggaaDoor.Given Go.Proofs.YtmamaijiphdggaaDoor.Math Go.Proofs.YtmamaijiphdggaaDoorW.PrintWords Go.Proofs.YtmamaijiphdggaaDoorW.PrintLast Go.Proofs.YtmamaijiphdggaaDoorW.PrintMore
set_option linter.unusedVariables false
set_option linter.unusedSimpArgs false

theorem within_in (n : Nat) (o a b c k : Int) (cl nm ds : ByteArray) (l U : List Int) (regs code : Int) (wr : wrap64 regs = regs) (i : Nat) (h : i < U.length) (hn : U.length ≤ 1000000) (hU : 0 ≤ U[i] ∧ U[i] < regs) :
    secateurlaw07_OpWithin.l0 (n + 1) regs code U (i : Int) o a b c k cl nm ds l = secateurlaw07_OpWithin.l0 n regs code U ((i + 1 : Nat) : Int) o a b c k cl nm ds l := by
  have hw := wrap_succ i (by omega)
  have hr := rd_at U i h
  rw [secateurlaw07_OpWithin.l0, if_pos (by omega), if_pos (by omega), hr, if_neg (by omega), if_neg (by rw [wr]; omega), hw]
theorem within_out (n : Nat) (o a b c k : Int) (cl nm ds : ByteArray) (l U : List Int) (regs code : Int) (wr : wrap64 regs = regs) (wc : wrap64 code = code) (wr1 : wrap64 (regs + 1) = regs + 1) (wc1 : wrap64 (code + 1) = code + 1) (i : Nat) (h : U.length ≤ i)
    (f1 : op_Fits.f o a b c k cl nm ds l (regs + 1) code = some 0) (f2 : op_Fits.f o a b c k cl nm ds l regs (code + 1) = some 0) (t1 : Int) (t2 : Bool) (hT : op_Target.f o a b c k cl nm ds l = some (t1, t2)) (hta : t2 = true → t1 < code) :
    secateurlaw07_OpWithin.l0 (n + 1) regs code U (i : Int) o a b c k cl nm ds l = (op_Sets.f n o a b c k cl nm ds l).bind fun bt322 => ((secateurlaw07_live.f n).bind fun t326 => (if t326 = true then (if bt322.2 = true then (if bt322.1 ≥ 0 then (if bt322.1 < regs then (some true) else (some false)) else (some false)) else (some true)) else (some false))) := by
  rw [secateurlaw07_OpWithin.l0, if_neg (by omega), wr, wc, wr1, wc1, hT, f1, f2]
  simp only [Option.bind_some, if_true, beq_self_eq_true]
  cases t2 with
  | true =>
    have := hta rfl
    simp only [if_true, if_pos this]
  | false => simp only [Bool.false_eq_true, if_false]
theorem OpWithin (o a b c k : Int) (cl nm ds : ByteArray) (l : List Int) (regs code : Int) (hr : 0 ≤ regs ∧ regs ≤ 255) (hc : 0 ≤ code ∧ code ≤ 255) : ∃ n, secateurlaw07_OpWithin.f n o a b c k cl nm ds l regs code = some true := by
  have wr : wrap64 regs = regs := by unfold wrap64; omega
  have wc : wrap64 code = code := by unfold wrap64; omega
  have wr1 : wrap64 (regs + 1) = regs + 1 := by unfold wrap64; omega
  have wc1 : wrap64 (code + 1) = code + 1 := by unfold wrap64; omega
  have jt : Ev (fun n => secateurlaw07_OpWithin.j0 n regs code true o a b c k cl nm ds l) true :=
    Ev.step (f := fun n => (secateurlaw07_live.f n).bind fun t293 => (some t293)) (fun n => by simp [secateurlaw07_OpWithin.j0]) (Ev.bind live_ev (Ev.now _))
  have jf : Short cl nm ds l → Fitted o a b c k cl nm ds l regs code → Ev (fun n => secateurlaw07_OpWithin.j0 n regs code false o a b c k cl nm ds l) true := fun S F => by
    have hu := F.uses
    have f1 : op_Fits.f o a b c k cl nm ds l (regs + 1) code = some 0 := by
      rw [opFits_ref _ _ _ _ _ _ _ _ _ _ _ S.cl S.nm S.ds S.l, (fits_iff ..).2 F.regs_more]
    have f2 : op_Fits.f o a b c k cl nm ds l regs (code + 1) = some 0 := by
      rw [opFits_ref _ _ _ _ _ _ _ _ _ _ _ S.cl S.nm S.ds S.l, (fits_iff ..).2 F.code_more]
    have hT := opTarget_ref o a b c k cl nm ds l
    have hlen : (usesB (shapeB o) o a b c l).length ≤ 1000000 := by
      have hl := S.l
      unfold usesB oneIf
      simp only [List.length_append]
      have h1 : (if o = 14 then [a] else ([] : List Int)).length ≤ 1 := by split <;> simp
      have h2 : (if hasC (shapeB o) 98 = true then [b] else ([] : List Int)).length ≤ 1 := by split <;> simp
      have h3 : (if hasC (shapeB o) 99 = true then [c] else ([] : List Int)).length ≤ 1 := by split <;> simp
      have h4 : (if hasC (shapeB o) 118 = true then l else ([] : List Int)).length ≤ 60 := by
        split
        · exact hl
        · simp
      omega
    have hse := F.sets
    have hta := F.target
    generalize targetB (shapeB o) k = T at hT hta
    have eS := opSets_ref o a b c k cl nm ds l S.ds
    generalize setsB (shapeB o) o a ds = Z at eS hse
    obtain ⟨z1, z2⟩ := Z
    obtain ⟨t1, t2⟩ := T
    have eU := opUses_ref o a b c k cl nm ds l S.l
    generalize usesB (shapeB o) o a b c l = U at eU hu hlen
    have fin : Ev (fun n => (op_Sets.f n o a b c k cl nm ds l).bind fun bt322 => ((secateurlaw07_live.f n).bind fun t326 => (if t326 = true then (if bt322.2 = true then (if bt322.1 ≥ 0 then (if bt322.1 < regs then (some true) else (some false)) else (some false)) else (some true)) else (some false)))) true := by
      refine Ev.bind eS (Ev.bind live_ev (Ev.congr (fun n => if_pos rfl) ?_))
      cases z2 with
      | true =>
        have := hse rfl
        simp only at this
        refine Ev.congr (f := fun _ => some true) (fun n => ?_) (Ev.now _)
        simp [this.1, this.2]
      | false => exact Ev.now _
    have loop : ∀ d i, U.length - i = d → i ≤ U.length → Ev (fun n => secateurlaw07_OpWithin.l0 n regs code U (i : Int) o a b c k cl nm ds l) true := by
      intro d
      induction d with
      | zero =>
        intro i hd hi
        refine Ev.step (f := fun n => (op_Sets.f n o a b c k cl nm ds l).bind fun bt322 => ((secateurlaw07_live.f n).bind fun t326 => (if t326 = true then (if bt322.2 = true then (if bt322.1 ≥ 0 then (if bt322.1 < regs then (some true) else (some false)) else (some false)) else (some true)) else (some false)))) (fun n => within_out n o a b c k cl nm ds l U regs code wr wc wr1 wc1 i (by omega) f1 f2 t1 t2 hT (fun e => hta e)) fin
      | succ d ih =>
        intro i hd hi
        have hlt : i < U.length := by omega
        have hur := hu U[i] (List.getElem_mem hlt)
        exact Ev.step (f := fun n => secateurlaw07_OpWithin.l0 n regs code U ((i + 1 : Nat) : Int) o a b c k cl nm ds l) (fun n => within_in n o a b c k cl nm ds l U regs code wr i hlt hlen hur) (ih (i + 1) (by omega) (by omega))
    refine Ev.step (f := fun n => (op_Uses.f n o a b c k cl nm ds l).bind fun t317 => (secateurlaw07_OpWithin.l0 n regs code t317 0 o a b c k cl nm ds l)) (fun n => by simp [secateurlaw07_OpWithin.j0]) (Ev.bind eU (loop _ 0 rfl (Nat.zero_le _)))
  have key : Ev (fun n => secateurlaw07_OpWithin.g n o a b c k cl nm ds l regs code) true := by
    refine Ev.congr (f := fun n => (secateurlaw07_long.f o a b c k cl nm ds l).bind fun t314 => (if t314 = true then (secateurlaw07_OpWithin.j0 n regs code true o a b c k cl nm ds l) else ((op_Fits.f o a b c k cl nm ds l (wrap64 (regs)) (wrap64 (code))).bind fun t315 => (secateurlaw07_OpWithin.j0 n regs code (t315 != 0) o a b c k cl nm ds l)))) (fun n => rfl) ?_
    rcases long_ref o a b c k cl nm ds l with h | ⟨h, S⟩
    · rw [h]
      exact jt
    · rw [h, wr, wc, opFits_ref _ _ _ _ _ _ _ _ _ _ _ S.cl S.nm S.ds S.l]
      by_cases hf : fitsB o a b c k cl nm ds l regs code = 0
      · rw [hf]
        exact jf S ((fits_iff ..).1 hf)
      · refine Ev.congr (f := fun n => secateurlaw07_OpWithin.j0 n regs code true o a b c k cl nm ds l) (fun n => ?_) jt
        show secateurlaw07_OpWithin.j0 n regs code (fitsB o a b c k cl nm ds l regs code != 0) o a b c k cl nm ds l = _
        rw [bne_iff_ne.mpr hf]
  obtain ⟨n, hn⟩ := key.rounds
  exact ⟨n, by unfold secateurlaw07_OpWithin.f; rw [hn]; rfl⟩
end Go.Proofs.YtmamaijiphdggaaDoor.Pure
