/- PROVED: for every program the Go function secateurtop.TopCodes returns true: in a program that can be (norm.Right) each instruction reads and sets registers of its method alone, and all texts that it names are among the program's strings; the argument reads as before. CONDITIONS: the card's own alone (the argument can be read as data; each string and slice takes at most 2^47 - 4096 bytes; the table op.shapes is tied to the program's text). -/
import Derived.Test.YtmamaijiphdggaaDoorLaid
import Derived.Test.YtmamaijiphdggaaDoorTie
import Derived.Test.YtmamaijiphdggaaDoorCards
import Derived.Test.YtmamaijiphdggaaDoorPureTopCodes
import Derived.Test.YtmamaijiphdggaaDoorOpenP
import Derived.Test.YtmamaijiphdggaaDoorPTopx5
import Derived.WalkKit
import Derived.ProofKit
import Derived.OpenShut
import Derived.ShutString
import Derived.ChangeOld
import Derived.Below
import Derived.SizedLaws
import Derived.SevenTiedAt
namespace Go.Proofs.YtmamaijiphdggaaDoor.topCodes
open Go.ChangeShapes Go.WideShapes Go.ChangeAt Go.RowKit
open Go.ChangeMaps (open_string shut_string)
open Go.Proofs.YtmamaijiphdggaaDoor.Given
set_option linter.unusedVariables false
theorem own : ownKnob Tryd.prog.godebug = none := by kernel_rfl
theorem laidOut : laidOutB Tryd.prog = true := by kernel_rfl
set_option maxRecDepth 100000 in
theorem lifted (os : Os) (started : os.Started) (H : Type) (enc : TypeId × Value → H) :
    ReturnsInHanded {} Tryd.checked os 3 .any (fun w args => (Rows.topCodesSpec.pre enc Tryd.prog Tryd.f3 Rows.topCodesRow.domain false w args ∧ laidMet Tryd.prog [("secateur/op.shapes", Rows.laid_secateur_op_shapes)] w) ∧ sizedMet enc Tryd.prog Tryd.f3 (OpenSpec.ofChange Rows.topCodesSpec) false w args)
      (Rows.topCodesSpec.post enc Tryd.prog Tryd.f3 false true false false) := by
  refine returnsInHanded_of_change_and (C := Tryd.checked) (X := fun w _ => laidMet Tryd.prog [("secateur/op.shapes", Rows.laid_secateur_op_shapes)] w) (fun _ _ _ hh h => h.of_heap hh) own started (by kernel_rfl) Tryd.func3
    (ChangeSpec.witness_at (enc := enc) (C := Tryd.checked) (os := os) (X := fun w _ => laidMet Tryd.prog [("secateur/op.shapes", Rows.laid_secateur_op_shapes)] w) false (laidWorld os) #[.agg #[.slice none 0 0, .slice none 0 0, .string ByteArray.empty, .string ByteArray.empty, .string ByteArray.empty]] 8 rfl (by kernel_rfl) (by kernel_rfl) (by kernel_rfl) (by kernel_rfl) (by kernel_rfl) (laidWorld_met os _)) ?_
  intro W base args ds gs before hval0 hW hcnd hsz0 hL _
  have hG := gw_of_laid hL
  have hsz : (DataW.weightsEach Tryd.prog (Tryd.f3.params.toList ++ Rows.topCodesSpec.plain.varTypes Tryd.prog) (ds ++ gs)).all (· ≤ reachBytes) = true := hsz0
  have hval : ∀ (j : Nat) t v, Tryd.f3.params[j]? = some t → args[j]? = some v → Value.okWide Tryd.prog W .any base t v := hval0
  have hW' := hW
  obtain ⟨p, q, hA0, hV, rfl, hfz, hnd⟩ := hW
  have hA : DataW.TrodAll enc Tryd.prog W 0 (fun _ => true) true Tryd.f3.params.toList args.toList ds p := hA0
  rw [Tryd.params3] at hA hval hsz
  obtain ⟨v0, vs0, d0, ds0, p0, q0, hargs, rfl, rfl, h0, r0⟩ := trodAll_cons hA
  obtain ⟨rfl, rfl, rfl⟩ := trodAll_nil r0
  obtain rfl : args = #[v0] := by cases args; simp_all
  obtain ⟨rfl, rfl⟩ := trodVars_none hV
  have k0 := h0
  have lt0 : ∀ x ∈ p0, x.block < W.heap.size := by
    obtain ⟨m, hm⟩ := k0
    exact DataW.trod_lt m _ _ _ hm
  obtain ⟨A, cs, c, B, ns, d, e1, e2, e3, rfl, g1, z1, g2, z2, w1, w2, u1, u2, u3⟩ := open_program (hval 0 27 v0 rfl rfl) h0
  clear hA0 hval0 hsz0 hsz
  obtain ⟨k, hk⟩ := Pure.TopCodes cs ns e1 e2 e3 w1 u1 u2
  refine (PTop.secateurtop_TopCodes.calls k A c cs B d ns e1 e2 e3 true W hG g1 z1 g2 z2 hk).mono fun e W' ⟨he, bel⟩ => ?_
  subst he
  exact ⟨_, rfl, _, _, _, [], _, [], hW', trodAll_mk1 (shut_bool Tryd.underlying4 _), (trodAll_cons_mk (Below.trod laidOut (by kernel_rfl) (of_decide_eq_true (by kernel_rfl)) k0 bel lt0) trodAll_mk0), rfl, bel.frame _, fun h => by cases h⟩
theorem over : Rows.topCodesRow.holds Tryd.pinned (OpenSpec.ofChange Rows.topCodesSpec) :=
  OpenClaim.holds_of_wide 3 Tryd.f3 rfl rfl rfl rfl rfl rfl rfl ⟨rfl, rfl, rfl, rfl, rfl⟩ rfl rfl rfl rfl rfl (by kernel_rfl) Tryd.func3 (by kernel_rfl)
    (of_decide_eq_true (by kernel_rfl)) (by unfold Func.isWrapper; first | (rw [if_pos (by decide +kernel)]; kernel_rfl) | (rw [if_neg (by decide +kernel)]; exact ⟨rfl, rfl⟩))
    (fun os started H enc _ => lifted os started H enc)
theorem proved : Rows.TopCodesSaid := over
theorem card : Rows.TopCodesCardSaid :=
  Claim7.holds_tied_plain_at .later [] [.data] true (true, "92413bc65fef809ae31da28a8bdad6e5a9520ce75979e0843b213eca4898ac09") true
    proved (fun _ h => by cases h) (by kernel_rfl) (fun _ h => by cases h) topCodes_row_tie rfl ⟨rfl, rfl⟩ (by kernel_rfl) rfl
    (fun f fn hf hfn => by
      obtain rfl : f = 3 := Option.some.inj ((show Tryd.prog.funcNamed "secateur/secateurtop.TopCodes" = some 3 by kernel_rfl).symm.trans hf) |>.symm
      obtain rfl : fn = Tryd.f3 := (Option.some.inj (Tryd.func3.symm.trans hfn)).symm
      exact ⟨by kernel_rfl, fun j t ht => by
        rw [Tryd.params3] at ht
        have hm : t ∈ ([27] : List TypeId) := Array.mem_toList_iff.2 (Array.mem_of_getElem? ht)
        revert hm t
        intro t ht hm
        have all : ∀ t ∈ ([27] : List TypeId), Tryd.prog.wantsStandIn t = false := by
          intro t ht
          simp only [List.mem_cons, List.mem_nil_iff, or_false] at ht
          subst ht; kernel_rfl
        exact all t hm⟩)
    (by kernel_rfl)
#print axioms card
end Go.Proofs.YtmamaijiphdggaaDoor.topCodes
namespace Go.Proofs.YtmamaijiphdggaaDoor
/-- The card, under a short name, for the claim. -/
theorem topCodes_card_holds : Rows.TopCodesCardSaid := topCodes.card
end Go.Proofs.YtmamaijiphdggaaDoor
