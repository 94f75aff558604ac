/- PROVED: for every instruction, and two numbers, the Go function secateurlaw07.OpFits returns true: op.Fits tells of it what the reference tells; the arguments read as before. CONDITIONS: the card's own alone (each argument can be read as data; each string and slice takes at most 2^47 - 4096 bytes; the table op.shapes is tied to the program's text). -/
import Derived.Test.YtmamaijiphdggaaDoorLaid
import Derived.Test.YtmamaijiphdggaaDoorTie
import Derived.Test.YtmamaijiphdggaaDoorCards
import Derived.Test.YtmamaijiphdggaaDoorPureOpFits
import Derived.Test.YtmamaijiphdggaaDoorOpenI
import Derived.Test.YtmamaijiphdggaaDoorPOpx10
import Derived.WalkKit
import Derived.ProofKit
import Derived.OpenShut
import Derived.ShutString
import Derived.ChangeOld
import Derived.Below
import Derived.SizedLaws
import Derived.SevenTiedAt
namespace Go.Proofs.YtmamaijiphdggaaDoor.opFits
open Go.ChangeShapes Go.WideShapes Go.ChangeAt Go.RowKit
open Go.ChangeMaps (open_string shut_string)
open Go.Proofs.YtmamaijiphdggaaDoor.Given
set_option linter.unusedVariables false
theorem own : ownKnob Tryd.prog.godebug = none := by kernel_rfl
theorem laidOut : laidOutB Tryd.prog = true := by kernel_rfl
set_option maxRecDepth 100000 in
theorem lifted (os : Os) (started : os.Started) (H : Type) (enc : TypeId × Value → H) :
    ReturnsInHanded {} Tryd.checked os 5 .any (fun w args => (Rows.opFitsSpec.pre enc Tryd.prog Tryd.f5 Rows.opFitsRow.domain false w args ∧ laidMet Tryd.prog [("secateur/op.shapes", Rows.laid_secateur_op_shapes)] w) ∧ sizedMet enc Tryd.prog Tryd.f5 (OpenSpec.ofChange Rows.opFitsSpec) false w args)
      (Rows.opFitsSpec.post enc Tryd.prog Tryd.f5 false true false false) := by
  refine returnsInHanded_of_change_and (C := Tryd.checked) (X := fun w _ => laidMet Tryd.prog [("secateur/op.shapes", Rows.laid_secateur_op_shapes)] w) (fun _ _ _ hh h => h.of_heap hh) own started (by kernel_rfl) Tryd.func5
    (ChangeSpec.witness_at (enc := enc) (C := Tryd.checked) (os := os) (X := fun w _ => laidMet Tryd.prog [("secateur/op.shapes", Rows.laid_secateur_op_shapes)] w) false (laidWorld os) #[.agg #[.int .i64 0, .int .i64 0, .int .i64 0, .int .i64 0, .int .i64 0, .string ByteArray.empty, .string ByteArray.empty, .string ByteArray.empty, .slice none 0 0], .int .i64 0, .int .i64 0] 8 rfl (by kernel_rfl) (by kernel_rfl) (by kernel_rfl) (by kernel_rfl) (by kernel_rfl) (laidWorld_met os _)) ?_
  intro W base args ds gs before hval0 hW hcnd hsz0 hL _
  have hG := gw_of_laid hL
  have hsz : (DataW.weightsEach Tryd.prog (Tryd.f5.params.toList ++ Rows.opFitsSpec.plain.varTypes Tryd.prog) (ds ++ gs)).all (· ≤ reachBytes) = true := hsz0
  have hval : ∀ (j : Nat) t v, Tryd.f5.params[j]? = some t → args[j]? = some v → Value.okWide Tryd.prog W .any base t v := hval0
  have hW' := hW
  obtain ⟨p, q, hA0, hV, rfl, hfz, hnd⟩ := hW
  have hA : DataW.TrodAll enc Tryd.prog W 0 (fun _ => true) true Tryd.f5.params.toList args.toList ds p := hA0
  rw [Tryd.params5] at hA hval hsz
  obtain ⟨v0, vs0, d0, ds0, p0, q0, hargs, rfl, rfl, h0, r0⟩ := trodAll_cons hA
  obtain ⟨v1, vs1, d1, ds1, p1, q1, rfl, rfl, rfl, h1, r1⟩ := trodAll_cons r0
  obtain ⟨v2, vs2, d2, ds2, p2, q2, rfl, rfl, rfl, h2, r2⟩ := trodAll_cons r1
  obtain ⟨rfl, rfl, rfl⟩ := trodAll_nil r2
  obtain rfl : args = #[v0, v1, v2] := by cases args; simp_all
  obtain ⟨rfl, rfl⟩ := trodVars_none hV
  have k0 := h0
  have lt0 : ∀ x ∈ p0, x.block < W.heap.size := by
    obtain ⟨m, hm⟩ := k0
    exact DataW.trod_lt m _ _ _ hm
  obtain ⟨o0, a0, b0, c0, n0, cl0, nm0, ds0_, A0, l0, cap0, rfl, g0, z0⟩ := open_instr (hval 0 44 v0 rfl rfl) h0
  obtain ⟨a1, rfl, rfl, rfl, w1⟩ := open_int Tryd.underlying3 (hval 1 3 v1 rfl rfl) h1
  obtain ⟨a2, rfl, rfl, rfl, w2⟩ := open_int Tryd.underlying3 (hval 2 3 v2 rfl rfl) h2
  clear hA0 hval0 hsz0 hsz
  obtain ⟨k, hk⟩ := Pure.OpFits o0 a0 b0 c0 n0 cl0 nm0 ds0_ l0 a1 a2
  refine (POp.secateurlaw07_OpFits.calls k o0 a0 b0 c0 n0 cl0 nm0 ds0_ A0 cap0 l0 a1 a2 true W hG g0 z0 hk).mono fun e W' ⟨he, bel⟩ => ?_
  subst he
  exact ⟨_, rfl, _, _, _, [], _, [], hW', trodAll_mk1 (shut_bool Tryd.underlying4 _), (trodAll_cons_mk (Below.trod laidOut (by kernel_rfl) (of_decide_eq_true (by kernel_rfl)) k0 bel lt0) (trodAll_cons_mk (shut_int Tryd.underlying3 w1) (trodAll_cons_mk (shut_int Tryd.underlying3 w2) trodAll_mk0))), rfl, bel.frame _, fun h => by cases h⟩
theorem over : Rows.opFitsRow.holds Tryd.pinned (OpenSpec.ofChange Rows.opFitsSpec) :=
  OpenClaim.holds_of_wide 5 Tryd.f5 rfl rfl rfl rfl rfl rfl rfl ⟨rfl, rfl, rfl, rfl, rfl⟩ rfl rfl rfl rfl rfl (by kernel_rfl) Tryd.func5 (by kernel_rfl)
    (of_decide_eq_true (by kernel_rfl)) (by unfold Func.isWrapper; first | (rw [if_pos (by decide +kernel)]; kernel_rfl) | (rw [if_neg (by decide +kernel)]; exact ⟨rfl, rfl⟩))
    (fun os started H enc _ => lifted os started H enc)
theorem proved : Rows.OpFitsSaid := over
theorem card : Rows.OpFitsCardSaid :=
  Claim7.holds_tied_plain_at .later [] [.data] true (true, "92413bc65fef809ae31da28a8bdad6e5a9520ce75979e0843b213eca4898ac09") true
    proved (fun _ h => by cases h) (by kernel_rfl) (fun _ h => by cases h) opFits_row_tie rfl ⟨rfl, rfl⟩ (by kernel_rfl) rfl
    (fun f fn hf hfn => by
      obtain rfl : f = 5 := Option.some.inj ((show Tryd.prog.funcNamed "secateur/secateurlaw07.OpFits" = some 5 by kernel_rfl).symm.trans hf) |>.symm
      obtain rfl : fn = Tryd.f5 := (Option.some.inj (Tryd.func5.symm.trans hfn)).symm
      exact ⟨by kernel_rfl, fun j t ht => by
        rw [Tryd.params5] at ht
        have hm : t ∈ ([44, 3, 3] : List TypeId) := Array.mem_toList_iff.2 (Array.mem_of_getElem? ht)
        revert hm t
        intro t ht hm
        have all : ∀ t ∈ ([44, 3, 3] : List TypeId), Tryd.prog.wantsStandIn t = false := by
          intro t ht
          simp only [List.mem_cons, List.mem_nil_iff, or_false, or_self] at ht
          rcases ht with rfl | rfl <;> kernel_rfl
        exact all t hm⟩)
    (by kernel_rfl)
#print axioms card
end Go.Proofs.YtmamaijiphdggaaDoor.opFits
namespace Go.Proofs.YtmamaijiphdggaaDoor
/-- The card, under a short name, for the claim. -/
theorem opFits_card_holds : Rows.OpFitsCardSaid := opFits.card
end Go.Proofs.YtmamaijiphdggaaDoor
