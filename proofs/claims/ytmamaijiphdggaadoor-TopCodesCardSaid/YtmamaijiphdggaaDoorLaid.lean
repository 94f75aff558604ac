/- The table op.shapes, as the rows list it, is in memory when a call begins. -/
import Derived.Test.YtmamaijiphdggaaDoorRows
import Derived.Test.YtmamaijiphdggaaDoorShape
import Derived.Lib.LaidTab
import Derived.ChangeSame
import Derived.ChangeVars
import Derived.JoinedOf
import Derived.RowKit
import Derived.Handed
import Derived.ProofKit
namespace Go.Proofs.YtmamaijiphdggaaDoor.Given
open Go.ChangeShapes Go.WideShapes Go.RowKit Go.Lib
set_option linter.unusedVariables false

theorem cells_of_strs {H : Type} {enc : TypeId × Value → H} {P : Program} {w : World} {base : Nat} {sp : Nat → Bool} {held : Bool} {fuel : Nat} {t e : TypeId} {n : Nat} {cs : List Value} {zs : List ByteArray} {p : List MemPlace}
    (ht : P.underlying t = some (.array n e)) (he : P.underlying e = some .string) (hce : P.cellsOf e = 1) (hct : P.cellsOf t = n)
    (h : DataW.trod enc P w base sp held fuel t cs = some (.agg (zs.map fun z => .lit (.string z.data.toList)), p)) : cs = zs.map fun z => Value.string z := by
  cases fuel with
  | zero => simp [DataW.trod] at h
  | succ fuel =>
    simp only [DataW.trod, ht, hce, hct, Nat.mul_one] at h
    split at h
    · rename_i hl
      obtain ⟨xs, hm, hx⟩ := Option.map_eq_some_iff.1 h
      have hxs : xs.map (·.1) = zs.map fun z => (DataW.lit (.string z.data.toList) : DataW H) := by
        have := congrArg Prod.fst hx
        simpa using this
      have hxl : xs.length = n := by simpa using mapM_length hm
      have hzl : zs.length = n := by
        have := congrArg List.length hxs
        simp at this
        omega
      apply List.ext_getElem?
      intro i
      by_cases hi : i < n
      · obtain ⟨b, hb, hf⟩ := mapM_at hm i i (by simp [hi])
        obtain ⟨z, hc, rfl, _⟩ := DataW.trod_string he hf
        have h1 : cs[i]? = some (.string z) := by
          have := congrArg (·[0]?) hc
          simpa [List.getElem?_take, List.getElem?_drop] using this
        have h2 : (xs.map (·.1))[i]? = some (DataW.lit (.string z.data.toList) : DataW H) := by simp [hb]
        rw [hxs] at h2
        simp only [List.getElem?_map, Option.map_eq_some_iff, DataW.lit.injEq, Lit.string.injEq] at h2
        obtain ⟨z', hz', e'⟩ := h2
        have e2 : z' = z := by
          cases z' with
          | mk d' => cases z with
            | mk d => exact congrArg ByteArray.mk (Array.ext' e')
        subst e2
        simp [h1, hz']
      · rw [List.getElem?_eq_none (by omega), List.getElem?_eq_none (by simp; omega)]
    · cases h

theorem shp : Tryd.prog.globalNamed "secateur/op.shapes" = some 0 := by kernel_rfl
theorem shpType : (Tryd.prog.globals[0]?).map (·.type) = some 61 := by kernel_rfl
theorem cells61 : Tryd.prog.cellsOf 61 = 33 := by kernel_rfl
theorem cells9 : Tryd.prog.cellsOf 9 = 1 := by kernel_rfl
def tblV : Array Value := (tbl.map fun z => Value.string z).toArray
theorem laid_tbl {H : Type} : (Rows.laid_secateur_op_shapes : DataW H) = .agg (tbl.map fun z => .lit (.string z.data.toList)) := rfl

theorem gw_of_laid {W : World} (h : laidMet Tryd.prog [("secateur/op.shapes", Rows.laid_secateur_op_shapes)] W) : GW W := by
  obtain ⟨ps, ⟨g', t', cs, fuel, p, q, hg', ht', hvar, hd, _, _⟩, _⟩ := h
  obtain rfl := Option.some.inj (shp.symm.trans hg')
  obtain rfl := Option.some.inj (shpType.symm.trans ht')
  rw [laid_tbl] at hd
  have hc := cells_of_strs Tryd.underlying61 Tryd.underlying9 cells9 cells61 hd
  refine ⟨fun i hi => ?_⟩
  have hl : i < tbl.length := hi
  have h1 : cs[i]? = some (.string (tbl.getD i ⟨#[]⟩)) := by
    rw [← Array.getElem?_toList, hc]
    simp [hl]
  exact World.var?_cell hg' hvar i |>.trans h1

/-- A world in which the table lies as it is listed. -/
noncomputable def laidWorld (os : Os) : World :=
  { World.holding Tryd.prog os ⟨#[], #[], []⟩ with heap := (World.holding Tryd.prog os ⟨#[], #[], []⟩).heap.modify 0 fun
      | .cells _ t frozen => .cells tblV t frozen
      | o => o }
theorem laidWorld_met (os : Os) (args : Array Value) : laidMet Tryd.prog [("secateur/op.shapes", Rows.laid_secateur_op_shapes)] ((laidWorld os).forCall (fun _ _ => 0) ⟨#[], args, []⟩).memory :=
  laidMet_of_run' 8 (by kernel_rfl) (by kernel_rfl)
end Go.Proofs.YtmamaijiphdggaaDoor.Given
