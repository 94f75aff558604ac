/- op.Fits: whether an instruction can stand in a method. -/
import Derived.Test.YtmamaijiphdggaaDoorRegs
namespace Go.Proofs.YtmamaijiphdggaaDoor.Given
set_option linter.unusedVariables false
set_option linter.unusedSimpArgs false
open Go.RowKit Go.Lib Go.Shelf
open Go.Proofs.YtmamaijiphdggaaDoorW.PrintWords
attribute [local go_sem] Oper.semAt_some

theorem registers_calls (o a b c k : Int) (cl nm ds : ByteArray) (A : Option Addr) (len cap : Nat) (w : World) :
    Calls Tryd.prog 44 #[insV o a b c k cl nm ds A len cap] w fun e w' => e = .returned (.func (.func 75) #[] #[.pointer (some ⟨w.heap.size, 0, none⟩)]) ∧ w' = w.alloc (.cells #[.int .i64 o, .int .i64 a, .int .i64 b, .int .i64 c, .int .i64 k, .string cl, .string nm, .string ds, .slice A len cap] 44) := by
  have hmf : ∀ (fn : Fn) (first cap : Array Value) (w : World), (Instr.makeFunc fn first cap).run Tryd.prog w = .ok (.func fn first cap) w := fun _ _ _ _ => rfl
  go_enter Tryd.func44, Tryd.ntmps44
  go_wp2
  go_ret
  exact ⟨rfl, rfl⟩

def regsL (o a b c : Int) (zs : List Int) : List Int := pfx (hasAnyB (shapeB o) ⟨#[97]⟩) (hasAnyB (shapeB o) ⟨#[98]⟩) (hasAnyB (shapeB o) ⟨#[99]⟩) a b c 3 ++ zs
def okR (regs : Int) (r : Int) : Bool := decide (0 ≤ r) && decide (r < regs)
theorem regs_stops (n : Nat) (hn : 1 ≤ n) (Bi : Nat) (o a b c k' : Int) (cl nm ds : ByteArray) (A : Option Addr) (cap : Nat) (zs : List Int) (hz : zs.length ≤ 1000000) (w : World) (hG : GW w)
    (hI : IBox w Bi o a b c k' cl nm ds A zs.length cap) (hR : Row w A zs) :
    SeqStopsK Fence.wide n Tryd.prog 75 #[.pointer (some ⟨Bi, 0, none⟩)] (fun x : Int => #[Value.int .i64 x]) Kc (fun xs => xs = regsL o a b c zs) (fun pre => pre <+: regsL o a b c zs) ((regsL o a b c zs).length) w := fun l J Jx W hW hJ _ hY h0 =>
  regs_in n hn l Bi o a b c k' cl nm ds A cap zs hz _ _ _ _ (by simp [regsL]) (has_at _ _ rfl) (has_at _ _ rfl) (has_at _ _ rfl) J Jx W hJ hY (hG.below hW)
    (hI.grown (below_grown hW)) ((Kc.grown (below_grown hW)).row hR) h0

/-- Block n is a whole number of type t. -/
structure NBox (w : World) (n : Nat) (x : Int) (t : TypeId) : Prop where
  heap : w.heap[n]? = some (.cells #[.int .i64 x] t (0, 0))
theorem NBox.c0 {w : World} {n : Nat} {x : Int} {t : TypeId} (h : NBox w n x t) : w.cell? ⟨n, 0, none⟩ = some (.int .i64 x) := by simp [World.cell?, h.heap]
theorem NBox.fz {w : World} {n : Nat} {x : Int} {t : TypeId} (h : NBox w n x t) : w.frozen? ⟨n, 0, none⟩ = false := by simp [World.frozen?, h.heap]
theorem NBox.grown {w w1 : World} {n : Nat} {x : Int} {t : TypeId} (h : NBox w n x t) (hg : w.grownBy w1 none) : NBox w1 n x t := ⟨(hg.block n (Array.getElem?_eq_some_iff.1 h.heap).1 (by simp)).trans h.heap⟩
theorem NBox.set {w : World} {n : Nat} {x : Int} {t : TypeId} (h : NBox w n x t) (y : Int) : NBox (w.setCell ⟨n, 0, none⟩ (.int .i64 y)) n y t := ⟨by have := h.heap; simp [World.setCell, Array.getElem?_modify, this]⟩
/-- What Fits has in memory. -/
structure FM (w : World) (o a b c k : Int) (cl nm ds : ByteArray) (A : Option Addr) (zs : List Int) (cap : Nat) (regs : Int) (W : World) : Prop where
  ib : IBox W w.heap.size o a b c k cl nm ds A zs.length cap
  rb : NBox W (w.heap.size + 1) regs 3
  eb : NBox W (w.heap.size + 1 + 1) 0 28
  gw : GW W
  row : Row W A zs
  below : Below w.heap.size w W
theorem FM.grown {w W W' : World} {o a b c k : Int} {cl nm ds : ByteArray} {A : Option Addr} {zs : List Int} {cap : Nat} {regs : Int} (h : FM w o a b c k cl nm ds A zs cap regs W) (hg : W.grownBy W' none) : FM w o a b c k cl nm ds A zs cap regs W' :=
  ⟨h.ib.grown hg, h.rb.grown hg, h.eb.grown hg, h.gw.grown hg, (Kc.grown hg).row h.row, h.below.trans ((grown_below hg).mono h.below.size)⟩
theorem FM.grew {w W W' : World} {o a b c k : Int} {cl nm ds : ByteArray} {A : Option Addr} {zs : List Int} {cap : Nat} {regs : Int} (h : FM w o a b c k cl nm ds A zs cap regs W) (hg : Below W.heap.size W W') : FM w o a b c k cl nm ds A zs cap regs W' := h.grown (below_grown hg)
theorem FM.start {w : World} (o a b c k : Int) (cl nm ds : ByteArray) (A : Option Addr) (zs : List Int) (cap : Nat) (regs : Int) (hG : GW w) (hR : Row w A zs) :
    FM w o a b c k cl nm ds A zs cap regs (((w.alloc (.cells #[.int .i64 o, .int .i64 a, .int .i64 b, .int .i64 c, .int .i64 k, .string cl, .string nm, .string ds, .slice A zs.length cap] 44)).alloc (.cells #[.int .i64 regs] 3)).alloc (.cells #[.int .i64 0] 28)) := by
  have g1 := grownBy_alloc w (.cells #[.int .i64 o, .int .i64 a, .int .i64 b, .int .i64 c, .int .i64 k, .string cl, .string nm, .string ds, .slice A zs.length cap] 44) none
  have g2 := grownBy_alloc (w.alloc (.cells #[.int .i64 o, .int .i64 a, .int .i64 b, .int .i64 c, .int .i64 k, .string cl, .string nm, .string ds, .slice A zs.length cap] 44)) (.cells #[.int .i64 regs] 3) none
  have g3 := grownBy_alloc ((w.alloc (.cells #[.int .i64 o, .int .i64 a, .int .i64 b, .int .i64 c, .int .i64 k, .string cl, .string nm, .string ds, .slice A zs.length cap] 44)).alloc (.cells #[.int .i64 regs] 3)) (.cells #[.int .i64 0] 28) none
  have g := grownBy_trans (grownBy_trans g1 g2) g3
  refine ⟨((IBox.new w o a b c k cl nm ds A zs.length cap).grown g2).grown g3, NBox.grown ⟨?_⟩ g3, ⟨?_⟩, hG.grown g, (Kc.grown g).row hR, grown_below g⟩
  · have := al_new (w.alloc (.cells #[.int .i64 o, .int .i64 a, .int .i64 b, .int .i64 c, .int .i64 k, .string cl, .string nm, .string ds, .slice A zs.length cap] 44)) (.cells #[.int .i64 regs] 3)
    rw [al_size] at this
    exact this
  · have := al_new ((w.alloc (.cells #[.int .i64 o, .int .i64 a, .int .i64 b, .int .i64 c, .int .i64 k, .string cl, .string nm, .string ds, .slice A zs.length cap] 44)).alloc (.cells #[.int .i64 regs] 3)) (.cells #[.int .i64 0] 28)
    rw [al_size, al_size] at this
    exact this

def lateQ (qt qr : Bool) (k code : Int) : Bool := (qt && (decide (k < 0) || decide (k ≥ code))) || (qr && (decide (k < 0) || decide (k > 9)))
def fitsQ (q0 q1 q2 q3 : Bool) (nc : Int) (ac : Bool) (len : Int) (a : Int) (qa : Bool) (ql : Bool) : Int :=
  if (!q0 || (!q1 || !q2)) = true then 1
  else if (q3 && !(len == nc)) = true then 9
  else if (q3 && (!ac && !(a == 0))) = true then 12
  else if qa = false then 12
  else if ql = true then 12 else 0
def spareB (o a b c k : Int) (cl nm ds : ByteArray) (len : Nat) : Bool :=
  emptyB 0 (zi (hasAnyB (shapeB o) ⟨#[97]⟩) a) (zi (hasAnyB (shapeB o) ⟨#[98]⟩) b) (zi (hasAnyB (shapeB o) ⟨#[99]⟩) c) (zi (hasAnyB (shapeB o) ⟨#[107, 116, 114]⟩) k) (zs (hasAnyB (shapeB o) ⟨#[67, 70, 77]⟩) cl) (zs (hasAnyB (shapeB o) ⟨#[70, 77]⟩) nm) (zs (hasAnyB (shapeB o) ⟨#[77]⟩) ds) (zn (hasAnyB (shapeB o) ⟨#[118]⟩) len)

theorem Kc.nbox {W W' : World} (h : Kc W W') {n : Nat} {x : Int} {t : TypeId} (hn : NBox W n x t) : NBox W' n x t := ⟨h _ _ _ _ hn.heap⟩
theorem fin1 {tmps : Array Value} {R : Ending → World → Prop} {W : World} {x : Int} {n : Nat} (h6 : tmps[6]?.getD undef = .pointer (some ⟨n, 0, none⟩)) (he : NBox W n x 28) (hR : R (.returned (.int .i64 x)) W) :
    bodyPostM Fence.wide 5 Tryd.prog Tryd.f23 R .ret { tmps := tmps, defers := [] } W := by
  have c0 := he.c0
  have hres : (results Tryd.f23 tmps).run Tryd.prog W = .ok (.int .i64 x) W := by simp [results, Tryd.results23, go_sem, h6, c0]
  exact ⟨_, hres, hR⟩
theorem fin2 {tmps : Array Value} {R : Ending → World → Prop} {W : World} {x : Int} {n D : Nat} (h6 : tmps[6]?.getD undef = .pointer (some ⟨n, 0, none⟩)) (he : NBox W n x 28) (hK : W.heap[D]? = some (.deferred (some []))) (hR : R (.returned (.int .i64 x)) (W.putObj D (.deferred none))) :
    bodyPostM Fence.wide 5 Tryd.prog Tryd.f23 R .ret { tmps := tmps, defers := [{ target := .collected D, args := #[] }] } W := by
  refine ⟨by simp, .inl ⟨_, _, rfl, run_takeDeferred hK, ?_⟩⟩
  have c0 := ((Kc.putObj W D _ (.deferred none) hK rfl).nbox he).c0
  have hres : (results Tryd.f23 tmps).run Tryd.prog (W.putObj D (.deferred none)) = .ok (.int .i64 x) (W.putObj D (.deferred none)) := by simp [results, Tryd.results23, go_sem, h6, c0]
  exact ⟨_, hres, hR⟩

theorem Kc.own {W W' : World} {row : Option Nat} (hg : W.grownBy W' row) (hr : ∀ r, row = some r → ∃ o : Obj, W.heap[r]? = some o ∧ o.isCells = false) : Kc W W' := by
  intro k cs t m hk
  refine (hg.block k (Array.getElem?_eq_some_iff.1 hk).1 ?_).trans hk
  intro e
  obtain ⟨o, ho, hc⟩ := hr k e.symm
  rw [hk] at ho
  cases ho
  simp [Obj.isCells] at hc
theorem FM.own {w W W' : World} {o a b c k : Int} {cl nm ds : ByteArray} {A : Option Addr} {zs : List Int} {cap : Nat} {regs : Int} (h : FM w o a b c k cl nm ds A zs cap regs W) {B : Nat} (hB : w.heap.size ≤ B) {row : Option Nat} (hg : W.grownBy W' row) (hr : ∀ r, row = some r → B ≤ r ∧ ∃ o : Obj, W.heap[r]? = some o ∧ o.isCells = false) : FM w o a b c k cl nm ds A zs cap regs W' := by
  have hk := Kc.own hg (fun r e => (hr r e).2)
  exact ⟨hk.ibox h.ib, hk.nbox h.rb, hk.nbox h.eb, ⟨fun i hi => hk.cell (h.gw.cell i hi)⟩, hk.row h.row, h.below.grown hg h.below.size (fun r e => Nat.le_trans hB (hr r e).1)⟩

set_option maxHeartbeats 8000000 in
set_option maxRecDepth 100000 in
theorem fits_walk (o a b c k : Int) (cl nm ds : ByteArray) (A : Option Addr) (cap : Nat) (zs : List Int) (regs code : Int) (hz : zs.length ≤ 1000000) (hs : ds.size ≤ 140737488351232) (hs1 : cl.size ≤ 140737488351232) (hs2 : nm.size ≤ 140737488351232) (w : World) (hG : GW w) (hR : Row w A zs) (q0 q1 q2 q3 : Bool) (nc : Int) (ac : Bool) (qt qr : Bool)
    (e0 : ∀ w, Calls Tryd.prog 38 #[.int .i64 o] w fun e w' => e = .returned (.bool q0) ∧ w = w')
    (a' b' c' k' : Int) (cl' nm' ds' : ByteArray) (A' : Option Addr) (len' cap' : Nat)
    (es : ∀ w, GW w → Calls Tryd.prog 42 #[insV o a b c k cl nm ds A zs.length cap] w fun e w' => e = .returned (insV 0 a' b' c' k' cl' nm' ds' A' len' cap') ∧ Below w.heap.size w w')
    (em : ∀ w, Calls Tryd.prog 30 #[insV 0 a' b' c' k' cl' nm' ds' A' len' cap', insV 0 0 0 0 0 ⟨#[]⟩ ⟨#[]⟩ ⟨#[]⟩ none 0 0] w fun e w' => e = .returned (.bool q1) ∧ Below w.heap.size w w')
    (e2 : ∀ w, GW w → Calls Tryd.prog 43 #[insV o a b c k cl nm ds A zs.length cap] w fun e w' => e = .returned (.bool q2) ∧ Below w.heap.size w w')
    (e3 : ∀ w, Calls Tryd.prog 18 #[.int .i64 o] w fun e w' => e = .returned (.bool q3) ∧ w = w')
    (e4 : ∀ w, Calls Tryd.prog 41 #[insV o a b c k cl nm ds A zs.length cap] w fun e w' => e = .returned (.tuple #[.int .i64 nc, .bool ac]) ∧ Below w.heap.size w w')
    (et : ∀ w, Calls Tryd.prog 40 #[.string (shapeB o), .string ⟨#[116]⟩] w fun e w' => e = .returned (.bool qt) ∧ w.grownBy w' none)
    (er : ∀ w, Calls Tryd.prog 40 #[.string (shapeB o), .string ⟨#[114]⟩] w fun e w' => e = .returned (.bool qr) ∧ w.grownBy w' none) :
    Calls Tryd.prog 23 #[insV o a b c k cl nm ds A zs.length cap, .int .i64 regs, .int .i64 code] w fun e w' => e = .returned (.int .i64 (fitsQ q0 q1 q2 q3 nc ac zs.length a ((regsL o a b c zs).all (okR regs)) (lateQ qt qr k code))) ∧ Below w.heap.size w w' := by
  obtain ⟨X, hX⟩ : ∃ X, Hid (fitsQ q0 q1 q2 q3 nc ac zs.length a ((regsL o a b c zs).all (okR regs)) (lateQ qt qr k code) = X) := ⟨_, hid rfl⟩
  rw [hX.out]
  have hF := FM.start o a b c k cl nm ds A zs cap regs hG hR
  refine (callsIn_wide (n := 5)).1 ?_
  refine callsIn_of_wp_marks Tryd.func23 rfl trivial ?_ rfl
  refine wpIn_wide.2 ?_
  simp only [Tryd.ntmps23, List.size_toArray, List.length_cons, List.length_nil, Nat.reduceAdd, Nat.reduceSub, Array.replicate_succ, Array.replicate_zero, List.push_toArray, List.append_toArray, List.nil_append, List.cons_append]
  go_upto_region 1 with (fail)
  generalize (((w.alloc (.cells #[.int .i64 o, .int .i64 a, .int .i64 b, .int .i64 c, .int .i64 k, .string cl, .string nm, .string ds, .slice A zs.length cap] 44)).alloc (.cells #[.int .i64 regs] 3)).alloc (.cells #[.int .i64 0] 28)) = W0 at hF ⊢
  have i0 := hF.ib.c0
  have i1 := hF.ib.c1
  have i2 := hF.ib.c2
  have i3 := hF.ib.c3
  have i4 := hF.ib.c4
  have i5 := hF.ib.c5
  have i6 := hF.ib.c6
  have i7 := hF.ib.c7
  have i8 := hF.ib.c8
  have ez := hF.eb.c0
  have ef := hF.eb.fz
  cases q0 with
  | false =>
    have hq : Hid ((1 : Int) = X) := hid (by rw [← hX.out]; rfl)
    go_wp2_with (first
      | (go_at_call 38; refine (e0 _).mono ?_; rintro e w' ⟨rfl, rfl⟩))
    have hE := hF.eb.set 1
    have hBl := hF.below.setCell (p := ⟨w.heap.size + 1 + 1, 0, none⟩) (by show w.heap.size ≤ w.heap.size + 1 + 1; omega) (.int .i64 1)
    exact fin1 rfl hE ⟨ret_int hq.out, hBl⟩
  | true =>
  cases q1 with
  | false =>
    have hq : Hid ((1 : Int) = X) := hid (by rw [← hX.out]; rfl)
    go_wp2_with (first
    | (go_at_call 38; refine (e0 _).mono ?_; rintro e w' ⟨rfl, rfl⟩)
    | (go_at_call 42; refine (es _ hF.gw).mono ?_; rintro e w1 ⟨rfl, hb1⟩
       have hF1 := hF.grew hb1
       have ez1 := hF1.eb.c0
       have ef1 := hF1.eb.fz
       have j0 := hF1.ib.c0
       have j1 := hF1.ib.c1
       have j2 := hF1.ib.c2
       have j3 := hF1.ib.c3
       have j4 := hF1.ib.c4
       have j5 := hF1.ib.c5
       have j6 := hF1.ib.c6
       have j7 := hF1.ib.c7
       have j8 := hF1.ib.c8)
    | (go_at_call 30; refine (em _).mono ?_; rintro e w2 ⟨rfl, hb2⟩
       have hF2 := hF1.grew hb2
       have ez2 := hF2.eb.c0
       have ef2 := hF2.eb.fz
       have l0 := hF2.ib.c0
       have l1 := hF2.ib.c1
       have l2 := hF2.ib.c2
       have l3 := hF2.ib.c3
       have l4 := hF2.ib.c4
       have l5 := hF2.ib.c5
       have l6 := hF2.ib.c6
       have l7 := hF2.ib.c7
       have l8 := hF2.ib.c8))
    have hE := hF2.eb.set 1
    have hBl := hF2.below.setCell (p := ⟨w.heap.size + 1 + 1, 0, none⟩) (by show w.heap.size ≤ w.heap.size + 1 + 1; omega) (.int .i64 1)
    exact fin1 rfl hE ⟨ret_int hq.out, hBl⟩
  | true =>
  cases q2 with
  | false =>
    have hq : Hid ((1 : Int) = X) := hid (by rw [← hX.out]; rfl)
    go_wp2_with (first
    | (go_at_call 38; refine (e0 _).mono ?_; rintro e w' ⟨rfl, rfl⟩)
    | (go_at_call 42; refine (es _ hF.gw).mono ?_; rintro e w1 ⟨rfl, hb1⟩
       have hF1 := hF.grew hb1
       have ez1 := hF1.eb.c0
       have ef1 := hF1.eb.fz
       have j0 := hF1.ib.c0
       have j1 := hF1.ib.c1
       have j2 := hF1.ib.c2
       have j3 := hF1.ib.c3
       have j4 := hF1.ib.c4
       have j5 := hF1.ib.c5
       have j6 := hF1.ib.c6
       have j7 := hF1.ib.c7
       have j8 := hF1.ib.c8)
    | (go_at_call 30; refine (em _).mono ?_; rintro e w2 ⟨rfl, hb2⟩
       have hF2 := hF1.grew hb2
       have ez2 := hF2.eb.c0
       have ef2 := hF2.eb.fz
       have l0 := hF2.ib.c0
       have l1 := hF2.ib.c1
       have l2 := hF2.ib.c2
       have l3 := hF2.ib.c3
       have l4 := hF2.ib.c4
       have l5 := hF2.ib.c5
       have l6 := hF2.ib.c6
       have l7 := hF2.ib.c7
       have l8 := hF2.ib.c8)
    | (go_at_call 43; refine (e2 _ hF2.gw).mono ?_; rintro e w3 ⟨rfl, hb3⟩
       have hF3 := hF2.grew hb3
       have ez3 := hF3.eb.c0
       have ef3 := hF3.eb.fz
       have m0 := hF3.ib.c0
       have m1 := hF3.ib.c1
       have m2 := hF3.ib.c2
       have m3 := hF3.ib.c3
       have m4 := hF3.ib.c4
       have m5 := hF3.ib.c5
       have m6 := hF3.ib.c6
       have m7 := hF3.ib.c7
       have m8 := hF3.ib.c8))
    have hE := hF3.eb.set 1
    have hBl := hF3.below.setCell (p := ⟨w.heap.size + 1 + 1, 0, none⟩) (by show w.heap.size ≤ w.heap.size + 1 + 1; omega) (.int .i64 1)
    exact fin1 rfl hE ⟨ret_int hq.out, hBl⟩
  | true =>
  go_upto_if 29 with (first
    | (go_at_call 38; refine (e0 _).mono ?_; rintro e w' ⟨rfl, rfl⟩)
    | (go_at_call 42; refine (es _ hF.gw).mono ?_; rintro e w1 ⟨rfl, hb1⟩
       have hF1 := hF.grew hb1
       have ez1 := hF1.eb.c0
       have ef1 := hF1.eb.fz
       have j0 := hF1.ib.c0
       have j1 := hF1.ib.c1
       have j2 := hF1.ib.c2
       have j3 := hF1.ib.c3
       have j4 := hF1.ib.c4
       have j5 := hF1.ib.c5
       have j6 := hF1.ib.c6
       have j7 := hF1.ib.c7
       have j8 := hF1.ib.c8)
    | (go_at_call 30; refine (em _).mono ?_; rintro e w2 ⟨rfl, hb2⟩
       have hF2 := hF1.grew hb2
       have ez2 := hF2.eb.c0
       have ef2 := hF2.eb.fz
       have l0 := hF2.ib.c0
       have l1 := hF2.ib.c1
       have l2 := hF2.ib.c2
       have l3 := hF2.ib.c3
       have l4 := hF2.ib.c4
       have l5 := hF2.ib.c5
       have l6 := hF2.ib.c6
       have l7 := hF2.ib.c7
       have l8 := hF2.ib.c8)
    | (go_at_call 43; refine (e2 _ hF2.gw).mono ?_; rintro e w3 ⟨rfl, hb3⟩
       have hF3 := hF2.grew hb3
       have ez3 := hF3.eb.c0
       have ef3 := hF3.eb.fz
       have m0 := hF3.ib.c0
       have m1 := hF3.ib.c1
       have m2 := hF3.ib.c2
       have m3 := hF3.ib.c3
       have m4 := hF3.ib.c4
       have m5 := hF3.ib.c5
       have m6 := hF3.ib.c6
       have m7 := hF3.ib.c7
       have m8 := hF3.ib.c8)
    | (go_at_call 18; refine (e3 _).mono ?_; rintro e w' ⟨rfl, rfl⟩))
  clear hb1 hb2 hb3 j0 j1 j2 j3 j4 j5 j6 j7 j8 l0 l1 l2 l3 l4 l5 l6 l7 l8 i0 i1 i2 i3 i4 i5 i6 i7 i8 ez ef ez1 ef1 ez2 ef2 hF hF1 hF2
  go_cut [] from 11 (fun wc => Hid (fitsQ true true true false 0 true 0 0 ((regsL o a b c zs).all (okR regs)) (lateQ qt qr k code) = X) ∧ FM w o a b c k cl nm ds A zs cap regs wc)
  case first =>
    cases q3 with
    | false =>
      go_wp2
      go_meet
      case rel => exact ⟨hid (by rw [← hX.out]; rfl), hF3⟩
    | true =>
      cases h9 : ((zs.length : Int) == nc) with
      | false =>
        have hq : Hid ((9 : Int) = X) := hid (by rw [← hX.out]; unfold fitsQ; rw [h9]; rfl)
        have h9b : ((zs.length : Int) != nc) = true := by rw [bne, h9]; rfl
        go_wp2_with (first
          | (go_at_call 41; refine (e4 _).mono ?_; rintro e w4 ⟨rfl, hb4⟩
             have hF4 := hF3.grew hb4
             have n0 := hF4.ib.c0
             have n1 := hF4.ib.c1
             have n8 := hF4.ib.c8
             have ez4 := hF4.eb.c0
             have ef4 := hF4.eb.fz))
        have hE := hF4.eb.set 9
        have hBl := hF4.below.setCell (p := ⟨w.heap.size + 1 + 1, 0, none⟩) (by show w.heap.size ≤ w.heap.size + 1 + 1; omega) (.int .i64 9)
        exact fin1 rfl hE ⟨ret_int hq.out, hBl⟩
      | true =>
        have h9b : ((zs.length : Int) != nc) = false := by rw [bne, h9]; rfl
        cases ac with
        | true =>
          go_wp2_with (first
            | (go_at_call 41; refine (e4 _).mono ?_; rintro e w4 ⟨rfl, hb4⟩
               have hF4 := hF3.grew hb4
               have n0 := hF4.ib.c0
               have n1 := hF4.ib.c1
               have n8 := hF4.ib.c8))
          go_meet
          case rel => exact ⟨hid (by rw [← hX.out]; unfold fitsQ; rw [h9]; rfl), hF4⟩
        | false =>
          cases ha0 : (a == 0) with
          | true =>
            have ha0b : (a != 0) = false := by rw [bne, ha0]; rfl
            go_wp2_with (first
              | (go_at_call 41; refine (e4 _).mono ?_; rintro e w4 ⟨rfl, hb4⟩
                 have hF4 := hF3.grew hb4
                 have n0 := hF4.ib.c0
                 have n1 := hF4.ib.c1
                 have n8 := hF4.ib.c8))
            go_meet
            case rel => exact ⟨hid (by rw [← hX.out]; unfold fitsQ; rw [h9, ha0]; rfl), hF4⟩
          | false =>
            have hq : Hid ((12 : Int) = X) := hid (by rw [← hX.out]; unfold fitsQ; rw [h9, ha0]; rfl)
            have ha0b : (a != 0) = true := by rw [bne, ha0]; rfl
            go_wp2_with (first
              | (go_at_call 41; refine (e4 _).mono ?_; rintro e w4 ⟨rfl, hb4⟩
                 have hF4 := hF3.grew hb4
                 have n0 := hF4.ib.c0
                 have n1 := hF4.ib.c1
                 have n8 := hF4.ib.c8
                 have ez4 := hF4.eb.c0
                 have ef4 := hF4.eb.fz))
            have hE := hF4.eb.set 12
            have hBl := hF4.below.setCell (p := ⟨w.heap.size + 1 + 1, 0, none⟩) (by show w.heap.size ≤ w.heap.size + 1 + 1; omega) (.int .i64 12)
            exact fin1 rfl hE ⟨ret_int hq.out, hBl⟩
  case rest =>
  clear hX hF3 m0 m1 m2 m3 m4 m5 m6 m7 m8 ez3 ef3
  obtain ⟨hX, hF⟩ := hcut
  have m0 := hF.ib.c0
  have m1 := hF.ib.c1
  have m2 := hF.ib.c2
  have m3 := hF.ib.c3
  have m4 := hF.ib.c4
  have m5 := hF.ib.c5
  have m6 := hF.ib.c6
  have m7 := hF.ib.c7
  have m8 := hF.ib.c8
  have ez3 := hF.eb.c0
  have ef3 := hF.eb.fz

  go_wp2_with (first
    | (go_at_call 44; refine (registers_calls o a b c k cl nm ds A zs.length cap _).mono ?_; rintro e w' ⟨rfl, rfl⟩))
  have hIn := IBox.new wc o a b c k cl nm ds A zs.length cap
  have hF2 := hF.grown (grownBy_alloc wc (.cells #[.int .i64 o, .int .i64 a, .int .i64 b, .int .i64 c, .int .i64 k, .string cl, .string nm, .string ds, .slice A zs.length cap] 44) none)
  have hwc : w.heap.size ≤ wc.heap.size := hF.below.size
  have hsz := al_size wc (.cells #[.int .i64 o, .int .i64 a, .int .i64 b, .int .i64 c, .int .i64 k, .string cl, .string nm, .string ds, .slice A zs.length cap] 44)
  refine (wpIn_wide (n := 5)).1 ?_
  generalize wc.alloc (.cells #[.int .i64 o, .int .i64 a, .int .i64 b, .int .i64 c, .int .i64 k, .string cl, .string nm, .string ds, .slice A zs.length cap] 44) = W1 at hIn hF2 hsz ⊢
  clear hF m0 m1 m2 m3 m4 m5 m6 m7 m8 ez3 ef3
  apply wpIn_rangeFunc_ownF (α := Int) (F := Fence.wide) (n := 5) rfl (by omega) (gf := 75) (lb := #[.pointer (some ⟨wc.heap.size, 0, none⟩)]) rfl trivial (enters_of Tryd.func75 (by kernel_rfl) rfl)
    (regs_stops 4 (by omega) wc.heap.size o a b c k cl nm ds A cap zs hz W1 hF2.gw hIn hF2.row) Kc.trans (fun W l o o' _ h hc _ => Kc.putObj W l o o' h hc) (Below.refl _ _) (fun _ => rfl)
    (fun pre W => (∀ r ∈ pre, okR regs r = true) ∧ FM w o a b c k cl nm ds A zs cap regs W)
    (fun cd pre W => cd = .ret ∧ (∃ r ∈ pre, okR regs r = false) ∧ NBox W (w.heap.size + 1 + 1) 12 28 ∧ Below w.heap.size w W)
    (fun pre W W' row h hg hr => ⟨h.1, h.2.own (by omega) hg hr⟩)
    (fun cd pre W W' row h hg hr => ⟨h.1, h.2.1, (Kc.own hg (fun r e => (hr r e).2)).nbox h.2.2.1, h.2.2.2.grown hg h.2.2.2.size (fun r e => Nat.le_trans (by omega) (hr r e).1)⟩)
    ⟨fun r hr => (by simp at hr), hF2⟩
  case hassign =>
    intro l x W K hK
    gi_wp2
    exact hK
  case hbody =>
    rintro l pre x W ⟨hall, hFb⟩ _
    have r0 := hFb.rb.c0
    have ez := hFb.eb.c0
    have ef := hFb.eb.fz
    gi_wp2
    all_goals first
      | exact ⟨KeepsOthers.setCell _ _ _, rfl, ⟨x, by simp, by unfold okR; simp; omega⟩, hFb.eb.set 12, hFb.below.setCell (p := ⟨w.heap.size + 1 + 1, 0, none⟩) (by show w.heap.size ≤ w.heap.size + 1 + 1; omega) _⟩
      | exact ⟨KeepsOthers.refl _, Kc.refl _, fun r hr => (by rw [List.mem_append, List.mem_singleton] at hr; rcases hr with hr | rfl; exact hall r hr; unfold okR; simp; omega), hFb⟩
  case hstop =>
    rintro D cd pre W hD hpre ⟨rfl, ⟨r, hr, hbad⟩, hN, hBl⟩ hK
    have hall0 : (regsL o a b c zs).all (okR regs) = false := by
      rw [List.all_eq_false]
      exact ⟨r, hpre.subset hr, by rw [hbad]; simp⟩
    have hq : Hid ((12 : Int) = X) := hid (by rw [← hX.out, hall0]; rfl)
    gi_wp2
    exact fin2 rfl hN hK ⟨ret_int hq.out, hBl.grown (grownBy_putObj' W D _) hBl.size (fun q e => by cases e; omega)⟩
  case hdone =>
    rintro D ys W hD rfl ⟨hall, hF⟩ hK
    have hall1 : (regsL o a b c zs).all (okR regs) = true := List.all_eq_true.2 hall
    have hX2 : Hid ((if lateQ qt qr k code = true then 12 else 0 : Int) = X) := hid (by rw [← hX.out, hall1]; rfl)
    clear hX
    have m0 := hF.ib.c0
    have m4 := hF.ib.c4
    have kp12 : ∀ {W' : World}, FM w o a b c k cl nm ds A zs cap regs W' → W'.heap[D]? = some (.deferred (some [])) → ∀ (y : Int), Below w.heap.size w ((W'.setCell ⟨w.heap.size + 1 + 1, 0, none⟩ (.int .i64 y)).putObj D (.deferred none)) := fun {W'} h _ y =>
      (h.below.setCell (p := ⟨w.heap.size + 1 + 1, 0, none⟩) (by show w.heap.size ≤ w.heap.size + 1 + 1; omega) (.int .i64 y)).grown (grownBy_putObj' _ D _) (h.below.setCell (p := ⟨w.heap.size + 1 + 1, 0, none⟩) (by show w.heap.size ≤ w.heap.size + 1 + 1; omega) (.int .i64 y)).size (fun q e => by cases e; omega)
    have hDn : D ≠ w.heap.size + 1 + 1 := by
      rintro rfl
      rw [hF.eb.heap] at hK
      cases hK
    have kpD : ∀ {W' : World} (y : Int), W'.heap[D]? = some (.deferred (some [])) → (W'.setCell ⟨w.heap.size + 1 + 1, 0, none⟩ (.int .i64 y)).heap[D]? = some (.deferred (some [])) := fun {W'} y h => (Below.heap_setCell W' _ _ D hDn).trans h
    go_wp2_with (first
      | (go_at_call 10; refine (Shape_calls _ _ hF.gw).mono ?_; rintro e w' ⟨rfl, rfl⟩)
      | (go_at_call 40; with_reducible refine (et _).mono ?_; rintro e w5 ⟨rfl, hg5⟩
         have hF5 := hF.grown hg5
         have hK5 := (hg5.block D (Array.getElem?_eq_some_iff.1 hK).1 (by simp)).trans hK
         have p4 := hF5.ib.c4
         have ez5 := hF5.eb.c0
         have ef5 := hF5.eb.fz)
      | (go_at_call 40; with_reducible refine (er _).mono ?_; rintro e w6 ⟨rfl, hg6⟩
         have hF6 := hF5.grown hg6
         have hK6 := (hg6.block D (Array.getElem?_eq_some_iff.1 hK5).1 (by simp)).trans hK5
         have r4 := hF6.ib.c4
         have ez6 := hF6.eb.c0
         have ef6 := hF6.eb.fz))
    all_goals first
      | (refine fin2 rfl (hF6.eb.set 12) (kpD 12 hK6) ⟨ret_int ?_, kp12 hF6 hK6 12⟩; rw [← hX2.out]; first | (rw [if_pos (by simp [lateQ, *])]; done) | (rw [if_pos (by simp [lateQ, *]; omega)]; done))
      | (refine fin2 rfl (hF6.eb.set 0) (kpD 0 hK6) ⟨ret_int ?_, kp12 hF6 hK6 0⟩; rw [← hX2.out]; first | (rw [if_neg (by simp [lateQ, *])]; done) | (rw [if_neg (by simp [lateQ, *]; omega)]; done))
      | (refine fin2 rfl (hF5.eb.set 12) (kpD 12 hK5) ⟨ret_int ?_, kp12 hF5 hK5 12⟩; rw [← hX2.out]; first | (rw [if_pos (by simp [lateQ, *])]; done) | (rw [if_pos (by simp [lateQ, *]; omega)]; done))
      | (refine fin2 rfl (hF5.eb.set 0) (kpD 0 hK5) ⟨ret_int ?_, kp12 hF5 hK5 0⟩; rw [← hX2.out]; first | (rw [if_neg (by simp [lateQ, *])]; done) | (rw [if_neg (by simp [lateQ, *]; omega)]; done))

theorem row_of {w : World} {A : Option Addr} {xs : List Int} (h : Kd.C (Kd.int .i64) w A xs.length xs) : Row w A xs := by
  intro j hj
  obtain ⟨ad, hA, hc⟩ := h.2.2 (by omega)
  obtain ⟨c, _, hR, hcell⟩ := hc j xs[j] (List.getElem?_eq_getElem hj)
  have hR' : c = [.int .i64 xs[j]] := hR
  refine ⟨ad, hA, ?_⟩
  have h0 := hcell 0 (.int .i64 xs[j]) (by rw [hR']; rfl)
  have e1 : (Kd.int .i64).sz = 1 := rfl
  rw [e1, Nat.mul_one, Nat.add_zero] at h0
  rw [h0, List.getElem?_eq_getElem hj]
  rfl
def fitsB (o a b c k : Int) (cl nm ds : ByteArray) (zs : List Int) (regs code : Int) : Int :=
  fitsQ (rightB o) (spareB o a b c k cl nm ds zs.length) (namedB o cl nm ds) (isCallB o) (callN o ds) (callA ds) zs.length a ((regsL o a b c zs).all (okR regs)) (lateQ (hasAnyB (shapeB o) ⟨#[116]⟩) (hasAnyB (shapeB o) ⟨#[114]⟩) k code)
theorem zn_le (q : Bool) (n m : Nat) (h : n ≤ m) : zn q n ≤ m := by unfold zn; split <;> omega
/-- Fits, whatever the instruction. -/
theorem Fits_calls (o a b c k : Int) (cl nm ds : ByteArray) (A : Option Addr) (cap : Nat) (zs : List Int) (regs code : Int) (hz : zs.length ≤ 1000000) (hs : ds.size ≤ 140737488351232) (hs1 : cl.size ≤ 140737488351232) (hs2 : nm.size ≤ 140737488351232) (w : World) (hG : GW w) (hC : Kd.C (Kd.int .i64) w A zs.length zs) :
    Calls Tryd.prog 23 #[insV o a b c k cl nm ds A zs.length cap, .int .i64 regs, .int .i64 code] w fun e w' => e = .returned (.int .i64 (fitsB o a b c k cl nm ds zs regs code)) ∧ Below w.heap.size w w' :=
  fits_walk o a b c k cl nm ds A cap zs regs code hz hs hs1 hs2 w hG (row_of hC) _ _ _ _ _ _ _ _ (right_calls o)
    _ _ _ _ _ _ _ _ _ _ (fun w h => spare_calls o a b c k cl nm ds A zs.length cap w h) (fun w => same0_calls _ _ _ _ _ _ _ _ _ _ _ (zn_le _ _ _ (by omega)) w)
    (fun w h => named_calls o a b c k cl nm ds A zs.length cap hs hs1 hs2 w h) (IsCall_calls o) (fun w => call_calls o a b c k cl nm ds A zs.length cap hs w) (has_at _ _ rfl) (has_at _ _ rfl)
end Go.Proofs.YtmamaijiphdggaaDoor.Given
