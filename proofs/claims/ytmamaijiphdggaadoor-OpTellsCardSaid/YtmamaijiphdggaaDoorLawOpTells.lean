/- PROVED: for every two instructions the Go function secateurlaw07.OpTells returns true: what an instruction reads, sets, and where it may jump, and whether two are the same, are told as the reference tells them; the arguments read as before. CONDITIONS: the card's own alone (each argument can be read as data; each string and slice takes at most 2^47 - 4096 bytes; the table op.shapes is tied to the program's text). -/
import Derived.Test.YtmamaijiphdggaaDoorLaid
import Derived.Test.YtmamaijiphdggaaDoorTie
import Derived.Test.YtmamaijiphdggaaDoorCards
import Derived.Test.YtmamaijiphdggaaDoorPureOpTells
import Derived.Test.YtmamaijiphdggaaDoorOpenI
import Derived.Test.YtmamaijiphdggaaDoorPOpx13
import Derived.WalkKit
import Derived.ProofKit
import Derived.OpenShut
import Derived.ShutString
import Derived.ChangeOld
import Derived.Below
import Derived.SizedLaws
import Derived.SevenTiedAt
namespace Go.Proofs.YtmamaijiphdggaaDoor.opTells
open Go.ChangeShapes Go.WideShapes Go.ChangeAt Go.RowKit
open Go.ChangeMaps (open_string shut_string)
open Go.Proofs.YtmamaijiphdggaaDoor.Given
set_option linter.unusedVariables false
theorem own : ownKnob Tryd.prog.godebug = none := by kernel_rfl
theorem laidOut : laidOutB Tryd.prog = true := by kernel_rfl
set_option maxRecDepth 100000 in
theorem lifted (os : Os) (started : os.Started) (H : Type) (enc : TypeId × Value → H) :
    ReturnsInHanded {} Tryd.checked os 6 .any (fun w args => (Rows.opTellsSpec.pre enc Tryd.prog Tryd.f6 Rows.opTellsRow.domain false w args ∧ laidMet Tryd.prog [("secateur/op.shapes", Rows.laid_secateur_op_shapes)] w) ∧ sizedMet enc Tryd.prog Tryd.f6 (OpenSpec.ofChange Rows.opTellsSpec) false w args)
      (Rows.opTellsSpec.post enc Tryd.prog Tryd.f6 false true false false) := by
  refine returnsInHanded_of_change_and (C := Tryd.checked) (X := fun w _ => laidMet Tryd.prog [("secateur/op.shapes", Rows.laid_secateur_op_shapes)] w) (fun _ _ _ hh h => h.of_heap hh) own started (by kernel_rfl) Tryd.func6
    (ChangeSpec.witness_at (enc := enc) (C := Tryd.checked) (os := os) (X := fun w _ => laidMet Tryd.prog [("secateur/op.shapes", Rows.laid_secateur_op_shapes)] w) false (laidWorld os) #[.agg #[.int .i64 0, .int .i64 0, .int .i64 0, .int .i64 0, .int .i64 0, .string ByteArray.empty, .string ByteArray.empty, .string ByteArray.empty, .slice none 0 0], .agg #[.int .i64 0, .int .i64 0, .int .i64 0, .int .i64 0, .int .i64 0, .string ByteArray.empty, .string ByteArray.empty, .string ByteArray.empty, .slice none 0 0]] 8 rfl (by kernel_rfl) (by kernel_rfl) (by kernel_rfl) (by kernel_rfl) (by kernel_rfl) (laidWorld_met os _)) ?_
  intro W base args ds gs before hval0 hW hcnd hsz0 hL _
  have hG := gw_of_laid hL
  have hsz : (DataW.weightsEach Tryd.prog (Tryd.f6.params.toList ++ Rows.opTellsSpec.plain.varTypes Tryd.prog) (ds ++ gs)).all (· ≤ reachBytes) = true := hsz0
  have hval : ∀ (j : Nat) t v, Tryd.f6.params[j]? = some t → args[j]? = some v → Value.okWide Tryd.prog W .any base t v := hval0
  have hW' := hW
  obtain ⟨p, q, hA0, hV, rfl, hfz, hnd⟩ := hW
  have hA : DataW.TrodAll enc Tryd.prog W 0 (fun _ => true) true Tryd.f6.params.toList args.toList ds p := hA0
  rw [Tryd.params6] at hA hval hsz
  obtain ⟨v0, vs0, d0, ds0, p0, q0, hargs, rfl, rfl, h0, r0⟩ := trodAll_cons hA
  obtain ⟨v1, vs1, d1, ds1, p1, q1, rfl, rfl, rfl, h1, r1⟩ := trodAll_cons r0
  obtain ⟨rfl, rfl, rfl⟩ := trodAll_nil r1
  obtain rfl : args = #[v0, v1] := by cases args; simp_all
  obtain ⟨rfl, rfl⟩ := trodVars_none hV
  have k0 := h0
  have lt0 : ∀ x ∈ p0, x.block < W.heap.size := by
    obtain ⟨m, hm⟩ := k0
    exact DataW.trod_lt m _ _ _ hm
  obtain ⟨o0, a0, b0, c0, n0, cl0, nm0, ds0_, A0, l0, cap0, rfl, g0, z0⟩ := open_instr (hval 0 44 v0 rfl rfl) h0
  have k1 := h1
  have lt1 : ∀ x ∈ p1, x.block < W.heap.size := by
    obtain ⟨m, hm⟩ := k1
    exact DataW.trod_lt m _ _ _ hm
  obtain ⟨o1, a1, b1, c1, n1, cl1, nm1, ds1_, A1, l1, cap1, rfl, g1, z1⟩ := open_instr (hval 1 44 v1 rfl rfl) h1
  clear hA0 hval0 hsz0 hsz
  obtain ⟨k, hk⟩ := Pure.OpTells o0 a0 b0 c0 n0 cl0 nm0 ds0_ l0 o1 a1 b1 c1 n1 cl1 nm1 ds1_ l1
  refine (POp.secateurlaw07_OpTells.calls k o0 a0 b0 c0 n0 cl0 nm0 ds0_ A0 cap0 l0 o1 a1 b1 c1 n1 cl1 nm1 ds1_ A1 cap1 l1 true W hG g0 z0 g1 z1 hk).mono fun e W' ⟨he, bel⟩ => ?_
  subst he
  exact ⟨_, rfl, _, _, _, [], _, [], hW', trodAll_mk1 (shut_bool Tryd.underlying4 _), (trodAll_cons_mk (Below.trod laidOut (by kernel_rfl) (of_decide_eq_true (by kernel_rfl)) k0 bel lt0) (trodAll_cons_mk (Below.trod laidOut (by kernel_rfl) (of_decide_eq_true (by kernel_rfl)) k1 bel lt1) trodAll_mk0)), rfl, bel.frame _, fun h => by cases h⟩
theorem over : Rows.opTellsRow.holds Tryd.pinned (OpenSpec.ofChange Rows.opTellsSpec) :=
  OpenClaim.holds_of_wide 6 Tryd.f6 rfl rfl rfl rfl rfl rfl rfl ⟨rfl, rfl, rfl, rfl, rfl⟩ rfl rfl rfl rfl rfl (by kernel_rfl) Tryd.func6 (by kernel_rfl)
    (of_decide_eq_true (by kernel_rfl)) (by unfold Func.isWrapper; first | (rw [if_pos (by decide +kernel)]; kernel_rfl) | (rw [if_neg (by decide +kernel)]; exact ⟨rfl, rfl⟩))
    (fun os started H enc _ => lifted os started H enc)
theorem proved : Rows.OpTellsSaid := over
theorem card : Rows.OpTellsCardSaid :=
  Claim7.holds_tied_plain_at .later [] [.data] true (true, "92413bc65fef809ae31da28a8bdad6e5a9520ce75979e0843b213eca4898ac09") true
    proved (fun _ h => by cases h) (by kernel_rfl) (fun _ h => by cases h) opTells_row_tie rfl ⟨rfl, rfl⟩ (by kernel_rfl) rfl
    (fun f fn hf hfn => by
      obtain rfl : f = 6 := Option.some.inj ((show Tryd.prog.funcNamed "secateur/secateurlaw07.OpTells" = some 6 by kernel_rfl).symm.trans hf) |>.symm
      obtain rfl : fn = Tryd.f6 := (Option.some.inj (Tryd.func6.symm.trans hfn)).symm
      exact ⟨by kernel_rfl, fun j t ht => by
        rw [Tryd.params6] at ht
        have hm : t ∈ ([44, 44] : List TypeId) := Array.mem_toList_iff.2 (Array.mem_of_getElem? ht)
        revert hm t
        intro t ht hm
        have all : ∀ t ∈ ([44, 44] : List TypeId), Tryd.prog.wantsStandIn t = false := by
          intro t ht
          simp only [List.mem_cons, List.mem_nil_iff, or_false, or_self] at ht
          rcases ht with rfl <;> kernel_rfl
        exact all t hm⟩)
    (by kernel_rfl)
#print axioms card
end Go.Proofs.YtmamaijiphdggaaDoor.opTells
namespace Go.Proofs.YtmamaijiphdggaaDoor
/-- The card, under a short name, for the claim. -/
theorem opTells_card_holds : Rows.OpTellsCardSaid := opTells.card
end Go.Proofs.YtmamaijiphdggaaDoor
