/- norm.Strings: all strings that a program has. -/
import Derived.Test.YtmamaijiphdggaaDoorGatherC
namespace Go.Proofs.YtmamaijiphdggaaDoor.Given
set_option linter.unusedVariables false
set_option linter.unusedSimpArgs false
open Go.RowKit Go.Lib
open Go.Proofs.YtmamaijiphdggaaDoorW.PrintWords

def entS (a b c : ByteArray) : List ByteArray := if (a.toList == ([] : List UInt8)) && ((b.toList == ([] : List UInt8)) && (c.toList == ([] : List UInt8))) then [] else [a, b, c]
def strsS (cs : List S37) (ns : List ByteArray) (a b c : ByteArray) : List ByteArray := cs.flatMap clsS ++ (ns ++ entS a b c)
theorem cls_len (x : S37) (h : okS x) : (clsS x).length ≤ 3006000 := by
  obtain ⟨h4, h5, h6, _, h8⟩ := h
  have h1 := meth_len x.f6 h8
  have h2 := fld_len x.f5
  have h3 := List.length_filter_le nonE [x.f1]
  have e : (clsS x).length = 1 + (([x.f1].filter nonE).length + (x.f4.length + ((x.f5.flatMap fldS).length + (x.f6.flatMap methS).length))) := by simp [clsS]; omega
  have e3 : [x.f1].length = 1 := rfl
  omega
theorem clss_len (l : List S37) (h : ∀ x ∈ l, okS x) : (l.flatMap clsS).length ≤ 3006000 * l.length := by
  induction l with
  | nil => simp
  | cons a l ih =>
    have := ih (fun m hm => h m (List.mem_cons_of_mem _ hm))
    have h1 := cls_len a (h a List.mem_cons_self)
    rw [List.flatMap_cons, List.length_append, List.length_cons]
    omega
set_option maxRecDepth 100000 in
set_option maxHeartbeats 4000000 in
theorem strings_calls (cs : List S37) (A : Option Addr) (c : Nat) (ns : List ByteArray) (B : Option Addr) (d : Nat) (e1 e2 e3 : ByteArray) (w : World)
    (hC : Kd.C k37 w A cs.length cs) (hN : Kd.C Kd.string w B ns.length ns) (hok : ∀ x ∈ cs, okS x) (hc : cs.length ≤ 100) (hn : ns.length ≤ 1000) :
    Calls Tryd.prog 12 #[T27V cs.length A c ns.length B d e1 e2 e3] w fun e w' => ∃ v, e = .returned v ∧ Kd.string.R 9 w' w.heap.size (fun _ => True) v (strsS cs ns e1 e2 e3) ∧ Below w.heap.size w w' := by
  obtain ⟨r, HR⟩ : ∃ r, Hid (r = strsS cs ns e1 e2 e3) := ⟨_, hid rfl⟩
  rw [show strsS cs ns e1 e2 e3 = r from HR.out.symm]
  have hB1 : Below w.heap.size w (w.alloc (.cells #[.slice A cs.length c, .slice B ns.length d, .string e1, .string e2, .string e3] 27)) := (Below.refl _ _).alloc (Nat.le_refl _) _
  have hs1 : (w.alloc (.cells #[.slice A cs.length c, .slice B ns.length d, .string e1, .string e2, .string e3] 27)).heap.size = w.heap.size + 1 := al_size _ _
  have hbox : (w.alloc (.cells #[.slice A cs.length c, .slice B ns.length d, .string e1, .string e2, .string e3] 27)).heap[w.heap.size]? = some (.cells #[.slice A cs.length c, .slice B ns.length d, .string e1, .string e2, .string e3] 27 (0, 0)) := al_new' w _
  have hg : ((w.alloc (.cells #[.slice A cs.length c, .slice B ns.length d, .string e1, .string e2, .string e3] 27)).alloc (.cells #[.slice none 0 0] 64)).heap[w.heap.size + 1]? = some (.cells #[.slice none 0 0] 64 (0, 0)) := by rw [← hs1]; exact al_new' _ _
  have hbox2 := box_keep (w0 := w) hbox (below_alloc (Below.refl _ _) (.cells #[.slice none 0 0] 64))
  have hB2 := hB1.alloc hB1.size (.cells #[.slice none 0 0] 64)
  have H := hid (show CSt w ((w.alloc (.cells #[.slice A cs.length c, .slice B ns.length d, .string e1, .string e2, .string e3] 27)).alloc (.cells #[.slice none 0 0] 64)) (w.heap.size + 1) w.heap.size 27 #[.slice A cs.length c, .slice B ns.length d, .string e1, .string e2, .string e3] (.slice none 0 0) (.slice none 0 0) [] ((w.alloc (.cells #[.slice A cs.length c, .slice B ns.length d, .string e1, .string e2, .string e3] 27)).alloc (.cells #[.slice none 0 0] 64)) from
    ⟨⟨hB2, Nat.le_succ _, hg, Kd.R_nil _ _ _ _ _⟩, Frm.refl _ _ _, hbox2⟩)
  have HC := hid hC
  have HN := hid hN
  have HO := hid hok
  clear hC hN hok hB1 hs1 hbox hg hbox2 hB2
  go_enter Tryd.func12, Tryd.ntmps12
  go_upto_region 2 with fail
  generalize (w.alloc (.cells #[.slice A cs.length c, .slice B ns.length d, .string e1, .string e2, .string e3] 27)).alloc (.cells #[.slice none 0 0] 64) = W0 at *
  generalize w.heap.size + 1 = g at *
  obtain ⟨b, hbw⟩ : ∃ b, Hid (b = w.heap.size) := ⟨_, hid rfl⟩
  rw [← hbw.out] at H ⊢
  have b0 := boxc H.out.hb 0 rfl
  go_wp2_with fail
  go_loopg [11] cs.length (fun gk z wr => ∃ (i : Nat) (vi : Value) (L : List ByteArray), i ≤ cs.length ∧ z = .int .i64 i ∧ gk = cs.length - i ∧ Hid (L = (cs.take i).flatMap clsS) ∧ Hid (CSt w W0 g b 27 #[.slice A cs.length c, .slice B ns.length d, .string e1, .string e2, .string e3] (.slice none 0 0) vi L wr))
  case atStart => exact ⟨0, _, [], Nat.zero_le _, rfl, by omega, hid (by simp), H⟩
  case round =>
    clear H b0
    obtain ⟨i, vi, L, hi, rfl, rfl, HL, HS⟩ := hrel
    by_cases hlt : i < cs.length
    · obtain ⟨ad, A4, c4, A5, c5, A6, c6, eA, y0, y1, y2, y3, y4, y5, y6, l4, g4, l5, g5, l6, g6⟩ := at_T37 HC.out (i : Int) (by omega) (by omega)
      subst eA
      have er : rd_T37 cs (i : Int) = cs[i] := by simp [rd_T37, List.getD, List.getElem?_eq_getElem hlt]
      have hcs := HO.out cs[i] (List.getElem_mem hlt)
      have et := take_flat clsS cs i hlt
      have nL : L.length ≤ 500000000 := by
        have h1 := clss_len (cs.take i) (fun m hm => HO.out m (List.mem_of_mem_take hm))
        rw [List.length_take] at h1
        rw [HL.out]
        have : min i cs.length = i := by omega
        rw [this] at h1
        omega
      rw [er] at y0 y1 y2 y3 y4 y5 y6 l4 g4 l5 g5 l6 g6
      rw [Int.toNat_natCast] at y0 y1 y2 y3 y4 y5 y6
      replace y0 := pw_cell_below HS.out.gat.below y0
      replace y1 := pw_cell_below HS.out.gat.below y1
      replace y2 := pw_cell_below HS.out.gat.below y2
      replace y3 := pw_cell_below HS.out.gat.below y3
      replace y4 := pw_cell_below HS.out.gat.below y4
      replace y5 := pw_cell_below HS.out.gat.below y5
      replace y6 := pw_cell_below HS.out.gat.below y6
      have HE := hid et
      clear er et
      generalize cs[i] = y at *
      have HW := hid (HS.out.alloc (.cells (cCells y A4 c4 A5 c5 A6 c6) 37))
      have hK := hid (class_calls (w0 := w) HW.out.gat y A4 c4 A5 c5 A6 c6 g4 g5 g6 hcs nL)
      have hib : (wr.alloc (.cells (cCells y A4 c4 A5 c5 A6 c6) 37)).heap[wr.heap.size]? = some (.cells (cCells y A4 c4 A5 c5 A6 c6) 37 (0, 0)) := al_new' wr _
      clear hcs g4 g5 g6 l4 l5 l6
      go_upto_region 5 with fail
      generalize wr.alloc (.cells (cCells y A4 c4 A5 c5 A6 c6) 37) = W3 at *
      generalize wr.heap.size = ib at *
      have a0 := boxc hib 0 rfl
      have a1 := boxc hib 1 rfl
      have a2 := boxc hib 2 rfl
      have a3 := boxc hib 3 rfl
      have a4 := boxc hib 4 rfl
      have a5 := boxc hib 5 rfl
      have a6 := boxc hib 6 rfl
      clear hib y0 y1 y2 y3 y4 y5 y6
      go_wp2_with (go_at_call 39; refine hK.out.mono ?_; rintro e w2 ⟨rfl, v2, hg2, hf2⟩; have H2 := hid (HW.out.call (by decide) (by decide) hg2 hf2); clear hg2 hf2 hK HW)
      go_roundg (cs.length - (i + 1))
      case rel => exact ⟨i + 1, v2, _, hlt, by go_num, rfl, hid (by rw [HE.out, ← HL.out]), H2⟩
      case measure => omega
    · have eT : cs.take i = cs := List.take_of_length_le (by omega)
      rw [eT] at HL
      have nL : L.length ≤ 300600000 := by
        have h1 := clss_len cs HO.out
        rw [HL.out]
        omega
      clear eT
      go_wp2_with fail
      go_cut [] (fun wc => ∃ v1, Hid (CSt w W0 g b 27 #[.slice A cs.length c, .slice B ns.length d, .string e1, .string e2, .string e3] (.slice none 0 0) v1 (L ++ ns) wc))
      case first =>
        have b1 := boxc HS.out.hb 1 rfl
        have g0 := HS.out.gat.c0
        have gz := HS.out.gat.fz
        have hgl : g < wr.heap.size := blk_lt HS.out.gat.hg
        have hbl : b < wr.heap.size := blk_lt HS.out.hb
        go_region_law ((refine Kd.R_append_rows_step Kd.string (w0 := w) w.heap.size rfl (.tmp 23) (.tmp 25) 23 9 (.string ⟨#[]⟩) 16 (by rfl) Tryd.underlying23 Tryd.info9 rfl (by decide) (by omega) vi L (ns) B ns.length d (ok := fun k => k ≠ g) (okp := fun _ => False) (by rfl) (by rfl) (HS.out.drew.gat.row) (Kd.C_below HN.out HS.out.drew.gat.below) (str_KM _ _) (fun _ hk => hk.elim) HS.out.drew.gat.fresh HS.out.drew.gat.below HS.out.drew.gat.below.size (by show (L.length + ns.length) * 16 ≤ _; omega) ?_; intro v9 w9 ho1 hb1 hg1' hat1; have HP := hid (HS.out.drew.push (by decide) (by decide) ho1 hb1 hg1' hat1); have q1 := (blk_cell HP.out.1 0).trans rfl; have z1 := blk_frozen HP.out.1 0; obtain ⟨A9, cap9, hv9, _, _⟩ := Kd.R_reads ho1; clear ho1 hb1 hg1' hat1; generalize hl9 : (L ++ (ns)).length = m9 at hv9; clear hl9; subst hv9))
        all_goals
          go_wp2_with fail
          go_meet
          exact ⟨_, hid HP.out.2.2⟩
      case rest =>
        obtain ⟨v3, H3⟩ := hcut
        clear HS
        obtain ⟨L3, e3'⟩ : ∃ L', Hid (L' = L ++ ns) := ⟨_, hid rfl⟩
        have n3 : L3.length ≤ 300601000 := by rw [e3'.out, List.length_append]; omega
        rw [← e3'.out] at H3
        have b2 := boxc H3.out.hb 2 rfl
        have b3 := boxc H3.out.hb 3 rfl
        have b4 := boxc H3.out.hb 4 rfl
        obtain ⟨qe, hqe⟩ : ∃ q : Bool, Hid (q = ((e1.toList == ([] : List UInt8)) && ((e2.toList == ([] : List UInt8)) && (e3.toList == ([] : List UInt8))))) := ⟨_, hid rfl⟩
        go_upto_region 8 with fail
        go_cut [32] (fun z wc' => z = .bool (!qe) ∧ wc' = wc)
        case first =>
          by_cases q1 : e1.toList = []
          · by_cases q2 : e2.toList = []
            · by_cases q3 : e3.toList = []
              · have hq := hqe.out
                rw [q1, q2, q3] at hq
                subst hq
                go_wp2_with fail
                go_meet
                exact ⟨rfl, rfl⟩
              · have hq : qe = false := by rw [hqe.out, q1, q2]; simp [q3]
                subst hq
                go_wp2_with fail
                go_meet
                exact ⟨rfl, rfl⟩
            · have hq : qe = false := by rw [hqe.out, q1]; simp [q2]
              subst hq
              go_wp2_with fail
              go_meet
              exact ⟨rfl, rfl⟩
          · have hq : qe = false := by rw [hqe.out]; simp [q1]
            subst hq
            go_wp2_with fail
            go_meet
            exact ⟨rfl, rfl⟩
        case rest =>
          obtain ⟨rfl, rfl⟩ := hcut
          have hE : Hid (entS e1 e2 e3 = if qe then [] else [e1, e2, e3]) := hid (by unfold entS; rw [← hqe.out])
          cases qe with
          | true =>
            have hR : Hid (L3 = r) := hid (by rw [HR.out, e3'.out, HL.out]; simp [strsS, hE.out])
            have g0 := H3.out.gat.c0
            go_wp2_with fail
            go_ret
            rw [← hR.out]
            exact ⟨v3, rfl, Kd.R_mono H3.out.gat.row (fun _ _ => trivial), H3.out.gat.below⟩
          | false =>
            have hR : Hid (L3 ++ [e1, e2, e3] = r) := hid (by rw [HR.out, e3'.out, HL.out]; simp [strsS, hE.out])
            have g0 := H3.out.gat.c0
            have gz := H3.out.gat.fz
            have hgl : g < wc.heap.size := blk_lt H3.out.gat.hg
            have hbl : b < wc.heap.size := blk_lt H3.out.hb
            go_wp2_with fail
            go_region_law ((refine Kd.R_append_rows_step Kd.string (w0 := w) w.heap.size rfl (.tmp 37) (.tmp 47) 23 9 (.string ⟨#[]⟩) 16 (by rfl) Tryd.underlying23 Tryd.info9 rfl (by decide) (by omega) v3 L3 ([e1, e2, e3]) (some ⟨wc.heap.size, 0, none⟩) 3 3 (ok := fun k => k ≠ g) (okp := fun _ => False) (by rfl) (by rfl) ((H3.out.alloc _).drew.gat.row) (Kd.C_below (str_box wc [e1, e2, e3]) (below_drew (Below.refl _ _))) (str_KM _ _) (fun _ hk => hk.elim) (H3.out.alloc _).drew.gat.fresh (H3.out.alloc _).drew.gat.below (H3.out.alloc _).drew.gat.below.size (by show (L3.length + 3) * 16 ≤ _; omega) ?_; intro v9 w9 ho1 hb1 hg1' hat1; have HP := hid ((H3.out.alloc _).drew.push (by decide) (by decide) ho1 hb1 hg1' hat1); have q1 := (blk_cell HP.out.1 0).trans rfl; have z1 := blk_frozen HP.out.1 0; have k2 := boxc HP.out.2.1 2 rfl; have k3 := boxc HP.out.2.1 3 rfl; have k4 := boxc HP.out.2.1 4 rfl; obtain ⟨A9, cap9, hv9, _, _⟩ := Kd.R_reads ho1; clear ho1 hb1 hg1' hat1; generalize hl9 : (L3 ++ ([e1, e2, e3])).length = m9 at hv9; clear hl9; subst hv9))
            all_goals
              have x0 := HP.out.2.2.gat.c0
              go_wp2_with fail
              rw [← hR.out]
              go_ret
              exact ⟨_, rfl, Kd.R_mono HP.out.2.2.gat.row (fun _ _ => trivial), HP.out.2.2.gat.below⟩
end Go.Proofs.YtmamaijiphdggaaDoor.Given
