/- The plain law of OpTells. -/
import Derived.Test.YtmamaijiphdggaaDoorToldRef
import Derived.Test.YtmamaijiphdggaaDoorPOpx13
namespace Go.Proofs.YtmamaijiphdggaaDoor.Pure
open Go.RowKit Go.Proofs.YtmamaijiphdggaaDoor.POp Go.Proofs.YtmamaijiphdggaaDoor.Given Go.Proofs.YtmamaijiphdggaaDoor.Math Go.Proofs.YtmamaijiphdggaaDoorW.PrintWords Go.Proofs.YtmamaijiphdggaaDoorW.PrintLast Go.Proofs.YtmamaijiphdggaaDoorW.PrintMore
set_option linter.unusedVariables false
set_option linter.unusedSimpArgs false

theorem usesB_len (s : ByteArray) (o a b c : Int) (l : List Int) (hl : l.length ≤ 60) : (usesB s o a b c l).length ≤ 1000000 := by
  unfold usesB oneIf
  simp only [List.length_append]
  have h1 : (if o = 14 then [a] else ([] : List Int)).length ≤ 1 := by split <;> simp
  have h2 : (if hasC s 98 = true then [b] else ([] : List Int)).length ≤ 1 := by split <;> simp
  have h3 : (if hasC s 99 = true then [c] else ([] : List Int)).length ≤ 1 := by split <;> simp
  have h4 : (if hasC s 118 = true then l else ([] : List Int)).length ≤ 60 := by
    split
    · exact hl
    · simp
  omega
theorem OpTells (o a b c k : Int) (cl nm ds : ByteArray) (l : List Int) (o' a' b' c' k' : Int) (cl' nm' ds' : ByteArray) (l' : List Int) : ∃ n, secateurlaw07_OpTells.f n o a b c k cl nm ds l o' a' b' c' k' cl' nm' ds' l' = some true := by
  have jt : Ev (fun n => secateurlaw07_OpTells.j0 n true o a b c k cl nm ds l o' a' b' c' k' cl' nm' ds' l') true := by
    refine Ev.step (f := fun n => (secateurlaw07_live.f n).bind fun t293 => (some t293)) (fun n => by simp [secateurlaw07_OpTells.j0]) (Ev.bind live_ev (Ev.now _))
  have jf : Short cl nm ds l → Ev (fun n => secateurlaw07_OpTells.j0 n false o a b c k cl nm ds l o' a' b' c' k' cl' nm' ds' l') true := fun S => by
    obtain ⟨r, hr⟩ := fields_some o a b c k cl nm ds o' a' b' c' k' cl' nm' ds'
    have e1 := opSets_ref o a b c k cl nm ds l S.ds
    have e2 := refSets_ref o a b c k cl nm ds l S.ds
    have e3 := opUses_ref o a b c k cl nm ds l S.l
    have e4 := refUses_ref o a b c k cl nm ds l S.l
    have e5 := sameInts_refl (usesB (shapeB o) o a b c l) (usesB_len _ _ _ _ _ _ S.l)
    have e6 := opSame_ref o a b c k cl nm ds l o' a' b' c' k' cl' nm' ds' l' S.l hr
    have e7 := refSame_ref o a b c k cl nm ds l o' a' b' c' k' cl' nm' ds' l' S.l hr
    have e8 := opSame_ref o a b c k cl nm ds l o a b c k cl nm ds l S.l (fields_self o a b c k cl nm ds)
    rw [decide_eq_true rfl, Bool.and_self] at e8
    have t1 := opTarget_ref o a b c k cl nm ds l
    have t2 := refTarget_ref o a b c k cl nm ds l
    refine Ev.step (f := fun n => (op_Sets.f n o a b c k cl nm ds l).bind fun bt294 => ((secateurref07_Sets.f n o a b c k cl nm ds l).bind fun bt296 => ((secateurlaw07_live.f n).bind fun t302 => (if t302 = true then ((op_Uses.f n o a b c k cl nm ds l).bind fun t303 => ((secateurref07_Uses.f n o a b c k cl nm ds l).bind fun t306 => ((secateurref01_SameInts.f n t303 t306).bind fun t309 => (if t309 = true then (if bt294.1 = bt296.1 then (if (bt294.2 == bt296.2) = true then ((op_Same.f n o a b c k cl nm ds l o' a' b' c' k' cl' nm' ds' l').bind fun t310 => ((secateurref07_Same.f n o a b c k cl nm ds l o' a' b' c' k' cl' nm' ds' l').bind fun t311 => (if (t310 == t311) = true then ((op_Same.f n o a b c k cl nm ds l o a b c k cl nm ds l).bind fun t312 => (some t312)) else (some false)))) else (some false)) else (some false)) else (some false))))) else (some false))))) (fun n => by
      simp [secateurlaw07_OpTells.j0, t1, t2]) ?_
    refine Ev.bind e1 (Ev.bind e2 (Ev.bind live_ev (Ev.congr (fun n => if_pos rfl) (Ev.bind e3 (Ev.bind e4 (Ev.bind e5 (Ev.congr (fun n => (if_pos rfl).trans ((if_pos rfl).trans (if_pos (by simp)))) (Ev.bind e6 (Ev.bind e7 (Ev.congr (fun n => if_pos (by simp)) (Ev.bind e8 (Ev.now _))))))))))))
  have key : Ev (fun n => secateurlaw07_OpTells.g n o a b c k cl nm ds l o' a' b' c' k' cl' nm' ds' l') true := by
    refine Ev.congr (f := fun n => (secateurlaw07_long.f o a b c k cl nm ds l).bind fun t291 => (if t291 = true then (secateurlaw07_OpTells.j0 n true o a b c k cl nm ds l o' a' b' c' k' cl' nm' ds' l') else ((secateurlaw07_long.f o' a' b' c' k' cl' nm' ds' l').bind fun t292 => (secateurlaw07_OpTells.j0 n t292 o a b c k cl nm ds l o' a' b' c' k' cl' nm' ds' l')))) (fun n => rfl) ?_
    rcases long_ref o a b c k cl nm ds l with h | ⟨h, S⟩
    · rw [h]
      exact jt
    · rw [h]
      rcases long_ref o' a' b' c' k' cl' nm' ds' l' with h' | ⟨h', S'⟩
      · rw [h']
        exact jt
      · rw [h']
        exact jf S
  obtain ⟨n, hn⟩ := key.rounds
  exact ⟨n, by unfold secateurlaw07_OpTells.f; rw [hn]; rfl⟩
end Go.Proofs.YtmamaijiphdggaaDoor.Pure
