/- norm.gather.class: a class's strings. -/
import Derived.Test.YtmamaijiphdggaaDoorGather
import Derived.Test.YtmamaijiphdggaaDoorText
import Derived.Deep.RegionLaw
namespace Go.Proofs.YtmamaijiphdggaaDoor.Given
set_option linter.unusedVariables false
set_option linter.unusedSimpArgs false
open Go.RowKit Go.Lib
open Go.Proofs.YtmamaijiphdggaaDoorW.PrintWords

def instrS (y : S44) : List ByteArray := [y.f5, y.f6, y.f7].filter nonE
def methS (m : S40) : List ByteArray := [m.f0, m.f1] ++ m.f5.flatMap instrS
def fldS (f : S83) : List ByteArray := [f.f0, textT f.f1.f0 f.f1.f1]
def clsS (x : S37) : List ByteArray := [x.f0] ++ ([x.f1].filter nonE ++ (x.f4 ++ (x.f5.flatMap fldS ++ x.f6.flatMap methS)))
def okS (x : S37) : Prop := x.f4.length ≤ 1000 ∧ x.f5.length ≤ 1000 ∧ x.f6.length ≤ 1000 ∧ (∀ f ∈ x.f5, f.f1.f1.size ≤ 1000000) ∧ ∀ m ∈ x.f6, m.f5.length ≤ 1000

/-- A block that is no row of strings stays, whatever is gathered. -/
theorem Gat.frame {w0 : World} {g : Nat} {v v' : Value} {xs : List ByteArray} {w w' : World} (h : Gat w0 g v xs w) (hf : Frm g v v' w w') {b : Nat} {cs : Array Value} {t : Nat} (hb : w.heap[b]? = some (.cells cs t (0, 0))) (h9 : 9 ≠ t) (h64 : 64 ≠ t) : w'.heap[b]? = some (.cells cs t (0, 0)) := by
  refine (hf.keep.2 b (blk_lt hb) (fun e => ?_) (Kd.R_ne h.row hb h9)).trans hb
  subst e
  have := h.hg.symm.trans hb
  injection this with this
  injection this with _ this
  exact h64 this

theorem Gat.fresh {w0 : World} {g : Nat} {v : Value} {xs : List ByteArray} {w : World} (h : Gat w0 g v xs w) : ∀ k, w.heap.size ≤ k → k ≠ g := fun k hk e => by
  subst e
  have := blk_lt h.hg
  omega
theorem Gat.row_keep {w0 : World} {g : Nat} {v : Value} {xs : List ByteArray} {w w1 : World} (h : Gat w0 g v xs w) (hw : w.grownBy w1 v.ownBlock) {b : Nat} {cs : Array Value} {t : Nat} (hb : w.heap[b]? = some (.cells cs t (0, 0))) (h9 : 9 ≠ t) : w1.heap[b]? = some (.cells cs t (0, 0)) :=
  blk_grown hb hw (Kd.R_ne h.row hb h9)
/-- Gathering under way: since w; a block b of another kind stands beside it. -/
structure CSt (w0 w : World) (g b t : Nat) (box : Array Value) (v v1 : Value) (L : List ByteArray) (wc : World) : Prop where
  gat : Gat w0 g v1 L wc
  frm : Frm g v v1 w wc
  hb : wc.heap[b]? = some (.cells box t (0, 0))
section
variable {w0 w wc w1 : World} {g b t : Nat} {box : Array Value} {v v1 v2 : Value} {L zs : List ByteArray}
theorem CSt.of_below (h : CSt w0 w g b t box v v1 L wc) (hb : Below wc.heap.size wc w1) : CSt w0 w g b t box v v1 L w1 :=
  ⟨h.gat.below' hb, h.frm.trans (Frm.of_below hb), (hb.block b (blk_lt h.hb)).trans h.hb⟩
theorem CSt.alloc (h : CSt w0 w g b t box v v1 L wc) (o : Obj) : CSt w0 w g b t box v v1 L (wc.alloc o) := h.of_below (below_alloc (Below.refl _ _) o)
theorem CSt.drew (h : CSt w0 w g b t box v v1 L wc) : CSt w0 w g b t box v v1 L wc.drew := h.of_below (below_drew (Below.refl _ _))
theorem CSt.push (h : CSt w0 w g b t box v v1 L wc) (h9 : 9 ≠ t) (h64 : 64 ≠ t)
    (hr : Kd.string.R 9 w1 w0.heap.size (fun k => k ≠ g) v2 zs) (hb : Below w0.heap.size w0 w1) (hw : wc.grownBy w1 v1.ownBlock) (hat : v2.ownBlock = v1.ownBlock ∨ ∃ b, v2.ownBlock = some b ∧ wc.heap.size ≤ b) :
    w1.heap[g]? = some (.cells #[v1] 64 (0, 0)) ∧ w1.heap[b]? = some (.cells box t (0, 0)) ∧ CSt w0 w g b t box v v2 zs (w1.setCell ⟨g, 0, none⟩ v2) := by
  obtain ⟨p1, p2, p3⟩ := h.gat.push hr hb hw hat
  exact ⟨p1, h.gat.row_keep hw h.hb h9, p2, h.frm.trans p3, h.gat.frame p3 h.hb h9 h64⟩
theorem CSt.call (h : CSt w0 w g b t box v v1 L wc) (h9 : 9 ≠ t) (h64 : 64 ≠ t) (hg : Gat w0 g v2 zs w1) (hf : Frm g v1 v2 wc w1) : CSt w0 w g b t box v v2 zs w1 :=
  ⟨hg, h.frm.trans hf, h.gat.frame hf h.hb h9 h64⟩
end

/-- some, of strings that have just been laid into a row. -/
theorem CSt.some_ {w0 w wc : World} {g b t : Nat} {box : Array Value} {v v1 : Value} {L : List ByteArray} (h : CSt w0 w g b t box v v1 L wc) (h9 : 9 ≠ t) (h64 : 64 ≠ t) (ys : List ByteArray) (hn : L.length + ys.length ≤ 1000000000) :
    Calls Tryd.prog 71 #[.pointer (some ⟨g, 0, none⟩), .slice (some ⟨wc.heap.size, 0, none⟩) ys.length ys.length] (wc.alloc (.cells (ys.map Value.string).toArray 9)) fun e w' => e = .returned (.tuple #[]) ∧ ∃ v2, CSt w0 w g b t box v v2 (L ++ ys.filter nonE) w' := by
  have h1 := h.alloc (.cells (ys.map Value.string).toArray 9)
  refine (some_calls h1.gat ys _ _ (str_box wc ys (by omega)) (fun ad e => ?_) hn).mono ?_
  · injection e with e
    subst e
    refine ⟨by simp, fun e => ?_, fun e => ?_⟩
    · have := blk_lt h.gat.hg
      have e' : wc.heap.size = g := e
      omega
    · have := Kd.R_lt h.gat.row _ e.symm
      have e' : wc.heap.size < wc.heap.size := this
      omega
  · rintro e w' ⟨rfl, v2, hg, hf⟩
    exact ⟨rfl, v2, h1.call h9 h64 hg hf⟩

theorem fld_len (l : List S83) : (l.flatMap fldS).length = 2 * l.length := by
  induction l with
  | nil => rfl
  | cons a l ih => rw [List.flatMap_cons, List.length_append, ih]; simp [fldS]; omega
theorem instr_len (l : List S44) : (l.flatMap instrS).length ≤ 3 * l.length := by
  induction l with
  | nil => simp
  | cons a l ih =>
    have := List.length_filter_le nonE [a.f5, a.f6, a.f7]
    rw [List.flatMap_cons, List.length_append, List.length_cons]
    have e : (instrS a).length ≤ 3 := this
    omega
theorem meth_len (l : List S40) (h : ∀ m ∈ l, m.f5.length ≤ 1000) : (l.flatMap methS).length ≤ 3002 * l.length := by
  induction l with
  | nil => simp
  | cons a l ih =>
    have := ih (fun m hm => h m (List.mem_cons_of_mem _ hm))
    have h1 := h a List.mem_cons_self
    have h2 := instr_len a.f5
    rw [List.flatMap_cons, List.length_append, List.length_cons]
    have e : (methS a).length = 2 + (a.f5.flatMap instrS).length := by simp [methS]; omega
    omega
theorem take_flat {α β : Type} (f : α → List β) (l : List α) (i : Nat) (h : i < l.length) : (l.take (i + 1)).flatMap f = (l.take i).flatMap f ++ f l[i] := by
  rw [List.take_succ_eq_append_getElem h, List.flatMap_append]
  simp

set_option maxRecDepth 100000 in
set_option maxHeartbeats 4000000 in
theorem class_calls {w0 w : World} {g : Nat} {v : Value} {xs : List ByteArray} (h : Gat w0 g v xs w) (x : S37) (A4 : Option Addr) (c4 : Nat) (A5 : Option Addr) (c5 : Nat) (A6 : Option Addr) (c6 : Nat)
    (h4 : Kd.C Kd.string w0 A4 x.f4.length x.f4) (h5 : Kd.C k83 w0 A5 x.f5.length x.f5) (h6 : Kd.C k40 w0 A6 x.f6.length x.f6) (hx : okS x) (hn : xs.length ≤ 500000000) :
    Calls Tryd.prog 39 #[.pointer (some ⟨g, 0, none⟩), T37V x A4 c4 A5 c5 A6 c6] w fun e w' => e = .returned (.tuple #[]) ∧ ∃ v', Gat w0 g v' (xs ++ clsS x) w' ∧ Frm g v v' w w' := by
  obtain ⟨r, HR⟩ : ∃ r, Hid (r = xs ++ clsS x) := ⟨_, hid rfl⟩
  rw [show xs ++ clsS x = r from HR.out.symm]
  obtain ⟨x0, x1, x2, x3, x4, x5, x6⟩ := x
  dsimp only at *
  have hbox : (w.alloc (.cells #[.string x0, .string x1, .bool x2, .bool x3, .slice A4 x4.length c4, .slice A5 x5.length c5, .slice A6 x6.length c6] 37)).heap[w.heap.size]? = some (.cells #[.string x0, .string x1, .bool x2, .bool x3, .slice A4 x4.length c4, .slice A5 x5.length c5, .slice A6 x6.length c6] 37 (0, 0)) := al_new' w _
  have H := hid (show CSt w0 w g w.heap.size 37 #[.string x0, .string x1, .bool x2, .bool x3, .slice A4 x4.length c4, .slice A5 x5.length c5, .slice A6 x6.length c6] v v xs _ from ⟨h.alloc (.cells #[.string x0, .string x1, .bool x2, .bool x3, .slice A4 x4.length c4, .slice A5 x5.length c5, .slice A6 x6.length c6] 37), Frm.of_below (below_alloc (Below.refl _ _) _), hbox⟩)
  have H4 := hid h4
  have H5 := hid h5
  have H6 := hid h6
  have HX := hid hx
  have m4 := hx.1
  have m5 := hx.2.1
  have m6 := hx.2.2.1
  dsimp only at m4 m5 m6
  clear hbox h h4 h5 h6 hx
  go_enter Tryd.func39, Tryd.ntmps39
  go_wp2_with fail
  generalize w.alloc (.cells #[.string x0, .string x1, .bool x2, .bool x3, .slice A4 x4.length c4, .slice A5 x5.length c5, .slice A6 x6.length c6] 37) = W at *
  generalize w.heap.size = b at *
  go_cut [] (fun wc => ∃ v1, Hid (CSt w0 w g b 37 #[.string x0, .string x1, .bool x2, .bool x3, .slice A4 x4.length c4, .slice A5 x5.length c5, .slice A6 x6.length c6] v v1 (xs ++ [x0]) wc))
  case first =>
    have g0 := H.out.gat.c0
    have gz := H.out.gat.fz
    have hgl : g < W.heap.size := blk_lt H.out.gat.hg
    have hbl : b < W.heap.size := blk_lt H.out.hb
    have b0 := boxc H.out.hb 0 rfl
    go_region_law ((refine Kd.R_append_rows_step Kd.string (w0 := w0) w0.heap.size rfl (.tmp 14) (.tmp 17) 23 9 (.string ⟨#[]⟩) 16 (by rfl) Tryd.underlying23 Tryd.info9 rfl (by decide) (by omega) v xs ([x0]) (some ⟨W.heap.size, 0, none⟩) 1 1 (ok := fun k => k ≠ g) (okp := fun _ => False) (by rfl) (by rfl) ((H.out.alloc _).drew.gat.row) (Kd.C_below (str_box W [x0]) (below_drew (Below.refl _ _))) (str_KM _ _) (fun _ hk => hk.elim) (H.out.alloc _).drew.gat.fresh (H.out.alloc _).drew.gat.below (H.out.alloc _).drew.gat.below.size (by show (xs.length + 1) * 16 ≤ _; omega) ?_; intro v9 w9 ho1 hb1 hg1' hat1; have HP := hid ((H.out.alloc _).drew.push (by decide) (by decide) ho1 hb1 hg1' hat1); have q1 := (blk_cell HP.out.1 0).trans rfl; have z1 := blk_frozen HP.out.1 0; have e1 := boxc HP.out.2.1 0 rfl; obtain ⟨A9, cap9, hv9, _, _⟩ := Kd.R_reads ho1; clear ho1 hb1 hg1' hat1; generalize hl9 : (xs ++ ([x0])).length = m9 at hv9; clear hl9; subst hv9))
    all_goals
      go_wp2_with fail
      go_meet
      exact ⟨_, hid HP.out.2.2⟩
  case rest =>
    obtain ⟨v1, H1⟩ := hcut
    clear H
    obtain ⟨L1, e1⟩ : ∃ L, Hid (L = xs ++ [x0] ++ [x1].filter nonE) := ⟨_, hid rfl⟩
    have n1 : L1.length ≤ 500000002 := by
      have := List.length_filter_le nonE [x1]
      rw [e1.out]
      simp at this ⊢
      omega
    have b1 := boxc H1.out.hb 1 rfl
    have HC := hid (H1.out.some_ (by decide) (by decide) [x1] (by simp; omega))
    rw [← e1.out] at HC
    go_wp2_with (go_at_call 71; refine HC.out.mono ?_; rintro e w2 ⟨rfl, v2, h2⟩; have H2 := hid h2; clear h2 HC b1 H1)
    go_cut [] (fun wc => ∃ v1, Hid (CSt w0 w g b 37 #[.string x0, .string x1, .bool x2, .bool x3, .slice A4 x4.length c4, .slice A5 x5.length c5, .slice A6 x6.length c6] v v1 (L1 ++ x4) wc))
    case first =>
      have g0 := H2.out.gat.c0
      have gz := H2.out.gat.fz
      have hgl : g < w2.heap.size := blk_lt H2.out.gat.hg
      have hbl : b < w2.heap.size := blk_lt H2.out.hb
      have b4 := boxc H2.out.hb 4 rfl
      go_region_law ((refine Kd.R_append_rows_step Kd.string (w0 := w0) w0.heap.size rfl (.tmp 30) (.tmp 32) 23 9 (.string ⟨#[]⟩) 16 (by rfl) Tryd.underlying23 Tryd.info9 rfl (by decide) (by omega) v2 L1 (x4) A4 x4.length c4 (ok := fun k => k ≠ g) (okp := fun _ => False) (by rfl) (by rfl) (H2.out.drew.gat.row) (Kd.C_below H4.out H2.out.drew.gat.below) (str_KM _ _) (fun _ hk => hk.elim) H2.out.drew.gat.fresh H2.out.drew.gat.below H2.out.drew.gat.below.size (by show (L1.length + x4.length) * 16 ≤ _; omega) ?_; intro v9 w9 ho1 hb1 hg1' hat1; have HP := hid (H2.out.drew.push (by decide) (by decide) ho1 hb1 hg1' hat1); have q1 := (blk_cell HP.out.1 0).trans rfl; have z1 := blk_frozen HP.out.1 0; obtain ⟨A9, cap9, hv9, _, _⟩ := Kd.R_reads ho1; clear ho1 hb1 hg1' hat1; generalize hl9 : (L1 ++ (x4)).length = m9 at hv9; clear hl9; subst hv9))
      all_goals
        go_wp2_with fail
        go_meet
        exact ⟨_, hid HP.out.2.2⟩
    case rest =>
      obtain ⟨v3, H3⟩ := hcut
      clear H2
      obtain ⟨L3, e3⟩ : ∃ L, Hid (L = L1 ++ x4) := ⟨_, hid rfl⟩
      have n3 : L3.length ≤ 500001002 := by rw [e3.out, List.length_append]; omega
      rw [← e3.out] at H3
      have b5 := boxc H3.out.hb 5 rfl
      go_wp2_with fail
      go_loopg [39] x5.length (fun gk z wr => ∃ (i : Nat) (vi : Value) (L : List ByteArray), i ≤ x5.length ∧ z = .int .i64 i ∧ gk = x5.length - i ∧ Hid (L = L3 ++ (x5.take i).flatMap fldS) ∧ Hid (CSt w0 w g b 37 #[.string x0, .string x1, .bool x2, .bool x3, .slice A4 x4.length c4, .slice A5 x5.length c5, .slice A6 x6.length c6] v vi L wr))
      case atStart => exact ⟨0, v3, L3, Nat.zero_le _, rfl, by omega, hid (by simp), H3⟩
      case round =>
        obtain ⟨i, vi, L, hi, rfl, rfl, HL, HS⟩ := hrel
        by_cases hlt : i < x5.length
        · obtain ⟨ad, eA, y0, y1, y2, y3⟩ := at_T83 H5.out (i : Int) (by omega) (by omega)
          subst eA
          have er : rd_T83 x5 (i : Int) = x5[i] := by simp [rd_T83, List.getD, List.getElem?_eq_getElem hlt]
          have hcs := HX.out.2.2.2.1 x5[i] (List.getElem_mem hlt)
          have et := take_flat fldS x5 i hlt
          have nL : L.length ≤ 500003002 := by
            rw [HL.out, List.length_append, fld_len, List.length_take]
            omega
          rw [er] at y0 y1 y2 y3
          rw [Int.toNat_natCast] at y0 y1 y2 y3
          replace y0 := pw_cell_below HS.out.gat.below y0
          replace y1 := pw_cell_below HS.out.gat.below y1
          replace y2 := pw_cell_below HS.out.gat.below y2
          replace y3 := pw_cell_below HS.out.gat.below y3
          have HE := hid et
          clear er et
          generalize x5[i] = y at *
          obtain ⟨f0, ⟨k, c⟩, q⟩ := y
          have eF : fldS ⟨f0, ⟨k, c⟩, q⟩ = [f0, textT k c] := rfl
          rw [eF] at HE
          dsimp only at y0 y1 y2 y3 hcs
          have HT := hid (text_calls k c hcs)
          clear eF hcs
          generalize textT k c = tx at *
          have HW := hid (HS.out.alloc (.cells #[.string f0, .int .i64 k, .string c, .bool q] 83))
          have hfb : (wr.alloc (.cells #[.string f0, .int .i64 k, .string c, .bool q] 83)).heap[wr.heap.size]? = some (.cells #[.string f0, .int .i64 k, .string c, .bool q] 83 (0, 0)) := al_new' wr _
          go_wp2_with fail
          generalize wr.alloc (.cells #[.string f0, .int .i64 k, .string c, .bool q] 83) = W2 at *
          generalize wr.heap.size = fb at *
          have g0 := HW.out.gat.c0
          have gz := HW.out.gat.fz
          have hgl : g < W2.heap.size := blk_lt HW.out.gat.hg
          have hbl : b < W2.heap.size := blk_lt HW.out.hb
          have a0 := boxc hfb 0 rfl
          have a1 := boxc hfb 1 rfl
          have a2 := boxc hfb 2 rfl
          have hfl : fb < W2.heap.size := blk_lt hfb
          go_region_law (first
            | (refine Kd.R_append_rows_step Kd.string (w0 := w0) w0.heap.size rfl (.tmp 47) (.tmp 53) 23 9 (.string ⟨#[]⟩) 16 (by rfl) Tryd.underlying23 Tryd.info9 rfl (by decide) (by omega) vi L ([f0, tx]) (some ⟨w5.heap.size, 0, none⟩) 2 2 (ok := fun k => k ≠ g) (okp := fun _ => False) (by rfl) (by rfl) ((HS2.out.alloc _).gat.row) (str_box w5 [f0, tx]) (str_KM _ _) (fun _ hk => hk.elim) (HS2.out.alloc _).gat.fresh (HS2.out.alloc _).gat.below (HS2.out.alloc _).gat.below.size (by show (L.length + 2) * 16 ≤ _; omega) ?_; intro v9 w9 ho1 hb1 hg1' hat1; have HP := hid ((HS2.out.alloc _).push (by decide) (by decide) ho1 hb1 hg1' hat1); have q1 := (blk_cell HP.out.1 0).trans rfl; have z1 := blk_frozen HP.out.1 0; obtain ⟨A9, cap9, hv9, _, _⟩ := Kd.R_reads ho1; clear ho1 hb1 hg1' hat1; generalize hl9 : (L ++ ([f0, tx])).length = m9 at hv9; clear hl9; subst hv9)
            | (go_simp; refine (HT.out _).mono ?_; rintro e w5 ⟨rfl, hb5⟩; have HS2 := hid (HW.out.drew.of_below hb5); have hf2 := box_keep (w := W2.drew) (w0 := W2) hfb hb5; have k0 := HS2.out.gat.c0; have kz := HS2.out.gat.fz; have d0 := boxc hf2 0 rfl; have d1 := boxc hf2 1 rfl; have d2 := boxc hf2 2 rfl; have hgl5 : g < w5.heap.size := blk_lt HS2.out.gat.hg; have hfl5 : fb < w5.heap.size := blk_lt hf2; clear hb5))
          all_goals
            go_wp2_with fail
            go_roundg (x5.length - (i + 1))
            case rel => exact ⟨i + 1, _, _, hlt, by go_num, rfl, hid (by rw [HE.out, ← List.append_assoc, ← HL.out]), hid HP.out.2.2⟩
            case measure => omega
        · have eT : x5.take i = x5 := List.take_of_length_le (by omega)
          rw [eT] at HL
          have n5 : L.length ≤ 500003002 := by rw [HL.out, List.length_append, fld_len]; omega
          have b6 := boxc HS.out.hb 6 rfl
          clear eT
          go_wp2_with fail
          go_loopg [61] x6.length (fun gk z wr => ∃ (i : Nat) (vi : Value) (L' : List ByteArray), i ≤ x6.length ∧ z = .int .i64 i ∧ gk = x6.length - i ∧ Hid (L' = L ++ (x6.take i).flatMap methS) ∧ Hid (CSt w0 w g b 37 #[.string x0, .string x1, .bool x2, .bool x3, .slice A4 x4.length c4, .slice A5 x5.length c5, .slice A6 x6.length c6] v vi L' wr))
          case atStart => exact ⟨0, vi, L, Nat.zero_le _, rfl, by omega, hid (by simp), HS⟩
          case round =>
            clear HS b6
            obtain ⟨j, vj, Lj, hj, rfl, rfl, HLj, HSj⟩ := hrel
            by_cases hltj : j < x6.length
            · obtain ⟨ad, A8, c8, eA, y0, y1, y2, y3, y4, y5, l5, g5⟩ := at_T40 H6.out (j : Int) (by omega) (by omega)
              subst eA
              have er : rd_T40 x6 (j : Int) = x6[j] := by simp [rd_T40, List.getD, List.getElem?_eq_getElem hltj]
              have hcs := HX.out.2.2.2.2 x6[j] (List.getElem_mem hltj)
              have et := take_flat methS x6 j hltj
              have nj : Lj.length ≤ 500003002 + 3002 * j := by
                have h1 := meth_len (x6.take j) (fun m hm => HX.out.2.2.2.2 m (List.mem_of_mem_take hm))
                rw [List.length_take] at h1
                rw [HLj.out, List.length_append]
                have : min j x6.length = j := by omega
                rw [this] at h1
                omega
              rw [er] at y0 y1 y2 y3 y4 y5 l5 g5
              rw [Int.toNat_natCast] at y0 y1 y2 y3 y4 y5
              replace y0 := pw_cell_below HSj.out.gat.below y0
              replace y1 := pw_cell_below HSj.out.gat.below y1
              replace y2 := pw_cell_below HSj.out.gat.below y2
              replace y3 := pw_cell_below HSj.out.gat.below y3
              replace y4 := pw_cell_below HSj.out.gat.below y4
              replace y5 := pw_cell_below HSj.out.gat.below y5
              have HE := hid et
              clear er et
              generalize x6[j] = y at *
              obtain ⟨f0, f1, f2, f3, f4, f5⟩ := y
              have eF : methS ⟨f0, f1, f2, f3, f4, f5⟩ = [f0, f1] ++ f5.flatMap instrS := rfl
              rw [eF] at HE
              dsimp only at y0 y1 y2 y3 y4 y5 hcs l5 g5
              clear eF
              have HG5 := hid g5
              clear g5
              have HW := hid (HSj.out.alloc (.cells #[.string f0, .string f1, .bool f2, .bool f3, .int .i64 f4, .slice A8 f5.length c8] 40))
              have hmb : (wr.alloc (.cells #[.string f0, .string f1, .bool f2, .bool f3, .int .i64 f4, .slice A8 f5.length c8] 40)).heap[wr.heap.size]? = some (.cells #[.string f0, .string f1, .bool f2, .bool f3, .int .i64 f4, .slice A8 f5.length c8] 40 (0, 0)) := al_new' wr _
              go_wp2_with fail
              generalize wr.alloc (.cells #[.string f0, .string f1, .bool f2, .bool f3, .int .i64 f4, .slice A8 f5.length c8] 40) = W2 at *
              generalize wr.heap.size = mb at *
              go_cut [7] (fun z wc => z = .pointer (some ⟨mb, 0, none⟩) ∧ ∃ (v1 : Value), Hid (CSt w0 w g b 37 #[.string x0, .string x1, .bool x2, .bool x3, .slice A4 x4.length c4, .slice A5 x5.length c5, .slice (some ad) x6.length c6] v v1 (Lj ++ [f0, f1]) wc) ∧ Hid (wc.heap[mb]? = some (.cells #[.string f0, .string f1, .bool f2, .bool f3, .int .i64 f4, .slice A8 f5.length c8] 40 (0, 0))))
              case first =>
                have g0 := HW.out.gat.c0
                have gz := HW.out.gat.fz
                have hgl : g < W2.heap.size := blk_lt HW.out.gat.hg
                have hbl : b < W2.heap.size := blk_lt HW.out.hb
                have a0 := boxc hmb 0 rfl
                have a1 := boxc hmb 1 rfl
                have hml : mb < W2.heap.size := blk_lt hmb
                have hmg : mb ≠ g := by
                  rintro rfl
                  have := HW.out.gat.hg.symm.trans hmb
                  injection this with this
                  injection this with _ this
                  exact absurd this (by decide)
                have HM2 : Hid ((W2.alloc (.cells #[.string f0, .string f1] 9)).drew.heap[mb]? = some (.cells #[.string f0, .string f1, .bool f2, .bool f3, .int .i64 f4, .slice A8 f5.length c8] 40 (0, 0))) := hid (box_keep (w0 := W2) (w := W2) hmb (below_drew (below_alloc (Below.refl _ _) _)))
                go_region_law ((refine Kd.R_append_rows_step Kd.string (w0 := w0) w0.heap.size rfl (.tmp 69) (.tmp 74) 23 9 (.string ⟨#[]⟩) 16 (by rfl) Tryd.underlying23 Tryd.info9 rfl (by decide) (by omega) vj Lj ([f0, f1]) (some ⟨W2.heap.size, 0, none⟩) 2 2 (ok := fun k => k ≠ g) (okp := fun _ => False) (by rfl) (by rfl) ((HW.out.alloc _).drew.gat.row) (Kd.C_below (str_box W2 [f0, f1]) (below_drew (Below.refl _ _))) (str_KM _ _) (fun _ hk => hk.elim) (HW.out.alloc _).drew.gat.fresh (HW.out.alloc _).drew.gat.below (HW.out.alloc _).drew.gat.below.size (by show (Lj.length + 2) * 16 ≤ _; omega) ?_; intro v9 w9 ho1 hb1 hg1' hat1; have HP := hid ((HW.out.alloc _).drew.push (by decide) (by decide) ho1 hb1 hg1' hat1); have q1 := (blk_cell HP.out.1 0).trans rfl; have z1 := blk_frozen HP.out.1 0; have HMB := hid ((HW.out.alloc (.cells #[.string f0, .string f1] 9)).drew.gat.row_keep hg1' HM2.out (by decide)); have HM9 := hid ((Below.heap_setCell w9 ⟨g, 0, none⟩ v9 mb hmg).trans HMB.out); obtain ⟨A9, cap9, hv9, _, _⟩ := Kd.R_reads ho1; clear ho1 hb1 hg1' hat1; generalize hl9 : (Lj ++ ([f0, f1])).length = m9 at hv9; clear hl9; subst hv9))
                all_goals
                  go_wp2_with fail
                  go_meet
                  exact ⟨rfl, _, hid HP.out.2.2, HM9⟩
              case rest =>
                obtain ⟨rfl, v9, H9, HM9⟩ := hcut
                have b5 := boxc HM9.out 5 rfl
                clear HW hmb y0 y1 y2 y3 y4 y5
                go_wp2_with fail
                clear b5
                go_loopg [81] f5.length (fun gk z wr => ∃ (i : Nat) (vi : Value) (L' : List ByteArray), i ≤ f5.length ∧ z = .int .i64 i ∧ gk = f5.length - i ∧ Hid (L' = Lj ++ [f0, f1] ++ (f5.take i).flatMap instrS) ∧ Hid (CSt w0 w g b 37 #[.string x0, .string x1, .bool x2, .bool x3, .slice A4 x4.length c4, .slice A5 x5.length c5, .slice (some ad) x6.length c6] v vi L' wr))
                case atStart => exact ⟨0, v9, _, Nat.zero_le _, rfl, by omega, hid (by simp), H9⟩
                case round =>
                  clear H9 HM9
                  obtain ⟨k, vk, Lk, hk, rfl, rfl, HLk, HSk⟩ := hrel
                  by_cases hltk : k < f5.length
                  · obtain ⟨ad2, A9, c9, eA, y0, y1, y2, y3, y4, y5, y6, y7, y8, l8, g8⟩ := at_T44 HG5.out (k : Int) (by omega) (by omega)
                    subst eA
                    have er : rd_T44 f5 (k : Int) = f5[k] := by simp [rd_T44, List.getD, List.getElem?_eq_getElem hltk]
                    have et := take_flat instrS f5 k hltk
                    have nk : Lk.length ≤ 500003004 + 3002 * j + 3 * k := by
                      have h1 := instr_len (f5.take k)
                      rw [List.length_take] at h1
                      rw [HLk.out, List.length_append, List.length_append]
                      have : min k f5.length = k := by omega
                      rw [this] at h1
                      have : [f0, f1].length = 2 := rfl
                      omega
                    rw [er] at y0 y1 y2 y3 y4 y5 y6 y7 y8 l8 g8
                    rw [Int.toNat_natCast] at y0 y1 y2 y3 y4 y5 y6 y7 y8
                    replace y0 := pw_cell_below HSk.out.gat.below y0
                    replace y1 := pw_cell_below HSk.out.gat.below y1
                    replace y2 := pw_cell_below HSk.out.gat.below y2
                    replace y3 := pw_cell_below HSk.out.gat.below y3
                    replace y4 := pw_cell_below HSk.out.gat.below y4
                    replace y5 := pw_cell_below HSk.out.gat.below y5
                    replace y6 := pw_cell_below HSk.out.gat.below y6
                    replace y7 := pw_cell_below HSk.out.gat.below y7
                    replace y8 := pw_cell_below HSk.out.gat.below y8
                    have HE2 := hid et
                    clear er et l8 g8
                    generalize f5[k] = y at *
                    obtain ⟨i0, i1, i2, i3, i4, i5, i6, i7, i8⟩ := y
                    have eF : instrS ⟨i0, i1, i2, i3, i4, i5, i6, i7, i8⟩ = [i5, i6, i7].filter nonE := rfl
                    rw [eF] at HE2
                    dsimp only at y0 y1 y2 y3 y4 y5 y6 y7 y8
                    clear eF
                    have HI := hid (HSk.out.alloc (.cells #[.int .i64 i0, .int .i64 i1, .int .i64 i2, .int .i64 i3, .int .i64 i4, .string i5, .string i6, .string i7, .slice A9 i8.length c9] 44))
                    have hib : (wr.alloc (.cells #[.int .i64 i0, .int .i64 i1, .int .i64 i2, .int .i64 i3, .int .i64 i4, .string i5, .string i6, .string i7, .slice A9 i8.length c9] 44)).heap[wr.heap.size]? = some (.cells #[.int .i64 i0, .int .i64 i1, .int .i64 i2, .int .i64 i3, .int .i64 i4, .string i5, .string i6, .string i7, .slice A9 i8.length c9] 44 (0, 0)) := al_new' wr _
                    go_upto_region 16 with fail
                    generalize wr.alloc (.cells #[.int .i64 i0, .int .i64 i1, .int .i64 i2, .int .i64 i3, .int .i64 i4, .string i5, .string i6, .string i7, .slice A9 i8.length c9] 44) = W3 at *
                    generalize wr.heap.size = ib at *
                    have a5 := boxc hib 5 rfl
                    have a6 := boxc hib 6 rfl
                    have a7 := boxc hib 7 rfl
                    have HC := hid (HI.out.some_ (by decide) (by decide) [i5, i6, i7] (by show Lk.length + 3 ≤ _; omega))
                    clear hib HI y0 y1 y2 y3 y4 y5 y6 y7 y8
                    go_wp2_with (go_at_call 71; refine HC.out.mono ?_; rintro e w2 ⟨rfl, v2, h2⟩; have H2 := hid h2; clear h2 HC)
                    go_roundg (f5.length - (k + 1))
                    case rel => exact ⟨k + 1, v2, _, hltk, by go_num, rfl, hid (by rw [HE2.out, ← List.append_assoc, ← HLk.out]), H2⟩
                    case measure => omega
                  · have eT : f5.take k = f5 := List.take_of_length_le (by omega)
                    rw [eT] at HLk
                    go_wp2_with fail
                    go_roundg (x6.length - (j + 1))
                    case rel => exact ⟨j + 1, vk, Lk, hltj, by go_num, rfl, hid (by rw [HE.out, HLk.out, HLj.out]; simp [List.append_assoc]), HSk⟩
                    case measure => omega
            · have eT : x6.take j = x6 := List.take_of_length_le (by omega)
              rw [eT] at HLj
              go_wp2_with fail
              go_end0
              have : Lj = r := by rw [HR.out, HLj.out, HL.out, e3.out, e1.out]; simp [clsS, List.append_assoc]
              rw [← this]
              exact ⟨rfl, vj, HSj.out.gat, HSj.out.frm⟩
end Go.Proofs.YtmamaijiphdggaaDoor.Given
