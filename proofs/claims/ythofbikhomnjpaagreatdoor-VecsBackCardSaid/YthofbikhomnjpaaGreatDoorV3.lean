import Derived.Test.YthofbikhomnjpaaGreatDoorV2
namespace Go.Proofs.YthofbikhomnjpaaGreatDoor
open Go.RowKit Go.Shelf
set_option linter.unusedVariables false
set_option linter.unusedSimpArgs false
attribute [local go_sem] Oper.semAt_some

theorem block_kept {W W' : World} {row : Option Nat} (hg : W.grownBy W' row) (hrow : ∀ r, row = some r → ∃ o : Obj, W.heap[r]? = some o ∧ o.isCells = false) {g : Nat} {cur : Array Value} {t : TypeId} {fr : Nat × Nat} (h : W.heap[g]? = some (.cells cur t fr)) : W'.heap[g]? = some (.cells cur t fr) := (grownBy_keeps_cells hg hrow h rfl).trans h
theorem Own.kept {W W' : World} {row : Option Nat} {v : Value} {n : Nat} {bs : List Nat} (h : Own W v n bs) (hg : W.grownBy W' row) (hrow : ∀ r, row = some r → ∃ o : Obj, W.heap[r]? = some o ∧ o.isCells = false) : Own W' v n bs := by
  rcases h with ⟨g, c, cur, h1, rfl, hh, r⟩ | h
  · exact .inl ⟨g, c, cur, h1, rfl, block_kept hg hrow hh, r⟩
  · exact .inr h
theorem OwnQ.kept {W W' : World} {row : Option Nat} {v : Value} {q : Rat} {bs : List Nat} (h : OwnQ W v q bs) (hg : W.grownBy W' row) (hrow : ∀ r, row = some r → ∃ o : Obj, W.heap[r]? = some o ∧ o.isCells = false) : OwnQ W' v q bs := by
  obtain ⟨s, s', b1, b2, h1, h2, h3, h4⟩ := h
  exact ⟨s, s', b1, b2, h1, h2, h3.kept hg hrow, h4.kept hg hrow⟩
theorem Box.kept {W W' : World} {row : Option Nat} {g : Nat} {t : TypeId} {cs : Array Value} (h : Box W g t cs) (hg : W.grownBy W' row) (hrow : ∀ r, row = some r → ∃ o : Obj, W.heap[r]? = some o ∧ o.isCells = false) : Box W' g t cs := block_kept hg hrow h
theorem Fresh.kept {B : Nat} {W W' : World} {row : Option Nat} {bs : List Nat} (h : Fresh B W bs) (hg : W.grownBy W' row) : Fresh B W' bs := h.up hg.size
theorem keeps_below {B : Nat} {W W' : World} (h : Below W.heap.size W W') : KeepsFrom B W W' := ⟨h.size, fun k o _ hk _ => (h.block k (Array.getElem?_eq_some_iff.1 hk).1).trans hk⟩
/-- A variable that holds a fraction of one's own. -/
def Holds (n₀ : Nat) (W : World) (g : Nat) (q : Rat) : Prop := ∃ a b c bs, Box W g 36 #[a, b, c] ∧ OwnQ W (.agg #[a, b, c]) q bs ∧ Fresh n₀ W bs
theorem Holds.kept {n₀ : Nat} {W W' : World} {row : Option Nat} {g : Nat} {q : Rat} (h : Holds n₀ W g q) (hg : W.grownBy W' row) (hrow : ∀ r, row = some r → ∃ o : Obj, W.heap[r]? = some o ∧ o.isCells = false) : Holds n₀ W' g q := by
  obtain ⟨a, b, c, bs, h1, h2, h3⟩ := h
  exact ⟨a, b, c, bs, h1.kept hg hrow, h2.kept hg hrow, h3.kept hg⟩
theorem Holds.below {n₀ : Nat} {W W' : World} {g : Nat} {q : Rat} (h : Holds n₀ W g q) (hb : Below W.heap.size W W') : Holds n₀ W' g q := by
  obtain ⟨a, b, c, bs, h1, h2, h3⟩ := h
  exact ⟨a, b, c, bs, h1.below hb, h2.below hb, h3.up hb.size⟩

theorem keeps_set3 {B : Nat} {W w : World} (h : KeepsFrom B W w) (g : Nat) (a b c : Value) : KeepsFrom B W (((w.setCell ⟨g, 0, none⟩ a).setCell ⟨g, 1, none⟩ b).setCell ⟨g, 2, none⟩ c) :=
  ((h.trans ((KeepsOthers.setCell _ _ _).from _)).trans ((KeepsOthers.setCell _ _ _).from _)).trans ((KeepsOthers.setCell _ _ _).from _)
theorem kept_set3 {w : World} {D : Nat} {o : Obj} (h : w.heap[D]? = some o) (hc : o.isCells = false) (g : Nat) (a b c : Value) : (((w.setCell ⟨g, 0, none⟩ a).setCell ⟨g, 1, none⟩ b).setCell ⟨g, 2, none⟩ c).heap[D]? = some o :=
  (((KeepsOthers.setCell _ _ _).trans (KeepsOthers.setCell _ _ _)).trans (KeepsOthers.setCell _ _ _)).same D o h hc
theorem KeepsB.set3 {n₀ B2 : Nat} {X Y : World} (h : KeepsB n₀ B2 X Y) {g : Nat} (hg : n₀ ≤ g) (hne : B2 ≠ g) (a b c : Value) : KeepsB n₀ B2 X (((Y.setCell ⟨g, 0, none⟩ a).setCell ⟨g, 1, none⟩ b).setCell ⟨g, 2, none⟩ c) :=
  ⟨Below_set3 h.1 hg a b c, fun v hv => cell_far (cell_far (cell_far (h.2 v hv) hne) hne) hne⟩
/-- The sum of the products at some places. -/
def dotQ {m : Nat} (rs ss : List Raw) (pre : List (Fin m)) : Rat := pre.foldl (fun s i => s + (raw rs i.1).q * (raw ss i.1).q) 0
theorem dotQ_snoc {m : Nat} (rs ss : List Raw) (pre : List (Fin m)) (i : Fin m) : dotQ rs ss (pre ++ [i]) = dotQ rs ss pre + (raw rs i.1).q * (raw ss i.1).q := by simp [dotQ]
theorem dot_fits {m K : Nat} {rs ss : List Raw} (h1 : ∀ i : Fin m, Fits K (raw rs i.1).q) (h2 : ∀ i : Fin m, Fits K (raw ss i.1).q) : ∀ (pre : List (Fin m)) (s : Rat) (k : Nat), Fits k s → Fits (k + pre.length * (2 * K + 1)) (pre.foldl (fun s i => s + (raw rs i.1).q * (raw ss i.1).q) s) := by
  intro pre
  induction pre with
  | nil => intro s k h; simpa using h
  | cons i pre ih =>
    intro s k h
    rw [List.foldl_cons]
    have := ih _ _ (h.add ((h1 i).mul (h2 i)))
    refine this.mono ?_
    rw [List.length_cons, Nat.add_mul]
    omega

set_option maxRecDepth 100000 in
set_option maxHeartbeats 4000000 in
theorem dot_calls (w : World) (A A' : Option Addr) (c c' : Nat) (rs ss : List Raw) (K : Nat) {B : Nat} (h : RatsAt B w A rs) (h' : RatsAt B w A' ss) (hc : rs.length ≤ c) (hc' : ss.length ≤ c') (hT : Tab w) (hBw : B ≤ w.heap.size) (hK : allLe K rs) (hK' : allLe K ss) (hK1 : 1 ≤ K) (hKs : rs.length * (2 * K + 1) + 2 * K + 1 ≤ 1099511627776) :
    Calls Tryz.prog 23 #[.slice A rs.length c, .slice A' ss.length c'] w fun e w' =>
      (¬ (rs.length = ss.length ∧ allOk rs = true ∧ allOk ss = true) → e = .returned (.tuple #[.agg #[.bool false, .slice none 0 0, .slice none 0 0], .int .i64 1])) ∧
      (rs.length = ss.length → allOk rs = true → allOk ss = true → ∃ v bs, e = .returned (.tuple #[v, .int .i64 0]) ∧ OwnQ w' v (dotQ rs ss (List.finRange rs.length)) bs ∧ Fresh w.heap.size w' bs) ∧ Below w.heap.size w w' := by
  have H := Lib.hid h
  have H' := Lib.hid h'
  have HT := Lib.hid hT
  have HK := Lib.hid hK
  have HK' := Lib.hid hK'
  clear h h' hT hK hK'
  refine (callsIn_wide (n := 9)).1 ?_
  refine callsIn_of_wp_marks Tryz.func23 rfl trivial ?_ rfl
  simp only [Tryz.ntmps23, List.size_toArray, List.length_cons, List.length_nil, Nat.reduceAdd, Nat.reduceSub, Array.replicate_succ, Array.replicate_zero, List.push_toArray, List.append_toArray, List.nil_append, List.cons_append]
  gi_wp2_with (fail)
  obtain ⟨w3, h3, hB, b0⟩ := boxes1 w 36 #[.bool false, .slice none 0 0, .slice none 0 0]
  rw [← h3]
  have B0 := Lib.hid b0
  clear h3 b0
  have hs3 := hB.size
  refine ⟨trivial, ?_⟩
  refine (callsIn_wide.2 (fit_calls _ _ _ _ _ rs ss (H.out.below hB) (H'.out.below hB) hc hc' (HT.out.below hB) (fun i hi => ⟨Nat.le_trans (HK.out i hi).1 (by omega), Nat.le_trans (HK.out i hi).2 (by omega)⟩) (fun i hi => ⟨Nat.le_trans (HK'.out i hi).1 (by omega), Nat.le_trans (HK'.out i hi).2 (by omega)⟩))).mono ?_
  rintro e w4 ⟨rfl, hB4⟩
  ((replace B0 := Lib.hid (Box.below (Box.below (Hid.out B0) (by ((repeat (first | assumption | exact Below.refl _ _ | refine Below.drew ?_ | refine below_drewN ?_ _ | refine Below.alloc' ?_ _ | refine Below.setCell ?_ (by first | omega | (dsimp only; omega) | (simp; done) | (simp; omega)) _ | refine Below.alloc ?_ (by first | assumption | exact Nat.le_refl _ | omega | (simp; done) | (simp; omega)) _))))) hB4); (try clear B0c1 B0c2 B0c3 B0c4 B0c5 B0c6); obtain ⟨B0c1, B0c2, B0c3, B0c4, B0c5, B0c6⟩ := Box.three (Hid.out B0); have := Box.lt (Hid.out B0)))
  ((replace hB := Below.on (Below.on hB (by ((repeat (first | assumption | exact Below.refl _ _ | refine Below.drew ?_ | refine below_drewN ?_ _ | refine Below.alloc' ?_ _ | refine Below.setCell ?_ (by first | omega | (dsimp only; omega) | (simp; done) | (simp; omega)) _ | refine Below.alloc ?_ (by first | assumption | exact Nat.le_refl _ | omega | (simp; done) | (simp; omega)) _))))) hB4; have := Below.size hB))
  by_cases hf : (decide (rs.length = ss.length) && allOk rs && allOk ss) = true
  · have hlen : rs.length = ss.length := by simp only [Bool.and_eq_true, decide_eq_true_eq] at hf; exact hf.1.1
    have HL := Lib.hid hlen
    have HF : Hid (allOk rs = true ∧ allOk ss = true) := by simp only [Bool.and_eq_true, decide_eq_true_eq] at hf; exact ⟨hf.1.2, hf.2⟩
    clear hlen
    gi_wp2_with (fail)
    refine ⟨trivial, ?_⟩
    refine (callsIn_wide.2 (rofn_calls _ 0 (by decide) (by decide))).mono ?_
    rintro e w5 ⟨v5, b5, rfl, hO5, hF5, hB5⟩
    obtain ⟨A5, c5, A5', c5', rfl, -, -, -, -⟩ := id (hO5.reads 0)
    have hF5' := hF5.low hB.size
    ((replace B0 := Lib.hid (Box.below (Box.below (Hid.out B0) (by ((repeat (first | assumption | exact Below.refl _ _ | refine Below.drew ?_ | refine below_drewN ?_ _ | refine Below.alloc' ?_ _ | refine Below.setCell ?_ (by first | omega | (dsimp only; omega) | (simp; done) | (simp; omega)) _ | refine Below.alloc ?_ (by first | assumption | exact Nat.le_refl _ | omega | (simp; done) | (simp; omega)) _))))) hB5); (try clear B0c1 B0c2 B0c3 B0c4 B0c5 B0c6); obtain ⟨B0c1, B0c2, B0c3, B0c4, B0c5, B0c6⟩ := Box.three (Hid.out B0); have := Box.lt (Hid.out B0)))
    ((replace hB := Below.on (Below.on hB (by ((repeat (first | assumption | exact Below.refl _ _ | refine Below.drew ?_ | refine below_drewN ?_ _ | refine Below.alloc' ?_ _ | refine Below.setCell ?_ (by first | omega | (dsimp only; omega) | (simp; done) | (simp; omega)) _ | refine Below.alloc ?_ (by first | assumption | exact Nat.le_refl _ | omega | (simp; done) | (simp; omega)) _))))) hB5; have := Below.size hB))
    gi_wp2_with (fail)
    refine ⟨trivial, ?_⟩
    refine (callsIn_wide.2 (both_calls _ _ _ _ _ _ _)).mono ?_
    rintro e w6 ⟨rfl, hw6⟩
    gi_wp2_with (fail)
    obtain ⟨q0, hq0⟩ : ∃ q0, q0 = dotQ (m := rs.length) rs ss [] := ⟨_, rfl⟩
    obtain ⟨W0, hW0⟩ : ∃ W0, W0 = ((w5.alloc (.cells #[.bool (rawOf 0).neg, .slice A5 (rawOf 0).xs.length c5, .slice A5' (rawOf 0).ys.length c5'] 36)).alloc (.cells #[.slice A rs.length c] 23)).alloc (.cells #[.slice A' ss.length c'] 23) := ⟨_, rfl⟩
    rw [← hW0]
    have hg0 : Below w5.heap.size w5 W0 := by rw [hW0]; ((repeat (first | assumption | exact Below.refl _ _ | refine Below.drew ?_ | refine below_drewN ?_ _ | refine Below.alloc' ?_ _ | refine Below.setCell ?_ (by first | omega | (dsimp only; omega) | (simp; done) | (simp; omega)) _ | refine Below.alloc ?_ (by first | assumption | exact Nat.le_refl _ | omega | (simp; done) | (simp; omega)) _)))
    have x6 : Box W0 w5.heap.size 36 #[.bool (rawOf 0).neg, .slice A5 (rawOf 0).xs.length c5, .slice A5' (rawOf 0).ys.length c5'] := by rw [hW0]; exact ((Box.new _ _ _).alloc _).alloc _
    have y1 : W0.cell? ⟨w5.heap.size + 1, 0, none⟩ = some (.slice A rs.length c) := by rw [hW0]; exact ((Box.new1 _ _ _ _).alloc _).cell 0
    have y2 : W0.cell? ⟨w5.heap.size + 1 + 1, 0, none⟩ = some (.slice A' ss.length c') := by rw [hW0]; exact (Box.new' _ _ _ (by simp)).cell 0
    have hsz0 : W0.heap.size = w5.heap.size + 1 + 1 + 1 := by rw [hW0]; simp
    have hI0 : Holds w.heap.size W0 w5.heap.size (dotQ (m := rs.length) rs ss []) := ⟨_, _, _, b5, x6, hO5.below hg0, hF5'.up hg0.size⟩
    have hBW := Below.on hB hg0
    have BR := Lib.hid (B0.out.below hg0)
    have Y1 := Lib.hid y1
    have Y2 := Lib.hid y2
    have HI0 := Lib.hid hI0
    clear hW0 hw6 x6 y1 y2 hI0 hO5 hF5 hF5' hq0
    have hs5 : w.heap.size < w5.heap.size := B0.out.lt
    clear B0c1 B0c2 B0c3 B0c4 B0c5 B0c6
    refine wpIn_rangeFunc_ownH rfl (by omega) (gf := 94) (lb := #[.pointer (some ⟨w5.heap.size + 1, 0, none⟩), .pointer (some ⟨w5.heap.size + 1 + 1, 0, none⟩)]) rfl trivial (enters_of Tryz.func94 (by kernel_rfl) rfl)
      (both_stops 8 (by omega) (w5.heap.size + 1) (w5.heap.size + 1 + 1) A A' c c' rs ss HL.out w W0 Y1.out Y2.out H.out H'.out hBW) KeepsB.trans (keepsB_put hBW.size (by omega)) (Below.refl _ _) (fun _ => rfl)
      (fun pre W => (Holds w.heap.size W w5.heap.size (dotQ rs ss pre) ∧ Box W w.heap.size 36 #[.bool false, .slice none 0 0, .slice none 0 0]) ∧ (Below w.heap.size w W ∧ W0.heap.size ≤ W.heap.size))
      (fun _ _ _ => False)
      (OwnFrom.and (fun s X Y row h hg hr => ⟨h.1.kept hg (fun r e => (hr r e).2), h.2.kept hg (fun r e => (hr r e).2)⟩) (OwnFrom.and (ownFrom_below (Nat.le_refl _) hBW.size) (fun s X Y row h hg hr => Nat.le_trans h hg.size)))
      (fun _ _ _ _ _ hs _ _ => hs)
      ⟨⟨HI0.out, BR.out⟩, hBW, Nat.le_refl _⟩
      (fun x a' W => ∃ B7 B8 a b d e f g, W0.heap.size ≤ B7 ∧ W0.heap.size ≤ B8 ∧ Box W B7 36 #[a, b, d] ∧ Box W B8 36 #[e, f, g] ∧ ratv w A x.1 = .agg #[a, b, d] ∧ ratv w A' x.1 = .agg #[e, f, g] ∧
        a' = { tmps := #[.slice A rs.length c, .slice A' ss.length c', undef, undef, .pointer (some ⟨w.heap.size, 0, none⟩), .int .i64 0, .pointer (some ⟨w5.heap.size, 0, none⟩), .pointer (some ⟨B7, 0, none⟩), .pointer (some ⟨B8, 0, none⟩), .slice A rs.length c, .slice A' ss.length c', .bool true, .bool false, undef, .agg #[.bool (rawOf 0).neg, .slice A5 (rawOf 0).xs.length c5, .slice A5' (rawOf 0).ys.length c5'], .slice A rs.length c, .slice A' ss.length c', .func (.func 94) #[] #[.pointer (some ⟨w5.heap.size + 1, 0, none⟩), .pointer (some ⟨w5.heap.size + 1 + 1, 0, none⟩)], ratv w A x.1, ratv w A' x.1, undef, undef, undef, undef, undef, undef], defers := [] })
      (fun x a' _ X Y row hs hg hr => by obtain ⟨B7, B8, a, b, d, e, f, g, h1, h2, h3, h4, h5⟩ := hs; exact ⟨B7, B8, a, b, d, e, f, g, h1, h2, h3.kept hg (fun r e => (hr r e).2), h4.kept hg (fun r e => (hr r e).2), h5⟩)
      ?assign ?body ?done ?stop
    case assign =>
      rintro l pre x W K' ⟨⟨hh, hbx⟩, hbl, hs0⟩ hK
      obtain ⟨b, o, A1, d1, A2, d2, -, -, -, -, k4, -⟩ := H.out.val x.2 (Below.refl _ _)
      obtain ⟨b', o', A1', d1', A2', d2', -, -, -, -, k4', -⟩ := H'.out.val (show x.1 < ss.length by have := HL.out; omega) (Below.refl _ _)
      have HK := Lib.hid hK
      have HH := Lib.hid hh
      have HX := Lib.hid hbx
      have K4 := Lib.hid k4
      have K4' := Lib.hid k4'
      clear hK hh hbx
      dsimp only
      rw [k4, k4']
      clear k4 k4'
      gi_wp2
      have hgr : Below W.heap.size W ((W.alloc (.cells #[.bool (raw rs x.1).neg, .slice A1 (raw rs x.1).xs.length d1, .slice A2 (raw rs x.1).ys.length d2] 36)).alloc (.cells #[.bool (raw ss x.1).neg, .slice A1' (raw ss x.1).xs.length d1', .slice A2' (raw ss x.1).ys.length d2'] 36)) := by ((repeat (first | assumption | exact Below.refl _ _ | refine Below.drew ?_ | refine below_drewN ?_ _ | refine Below.alloc' ?_ _ | refine Below.setCell ?_ (by first | omega | (dsimp only; omega) | (simp; done) | (simp; omega)) _ | refine Below.alloc ?_ (by first | assumption | exact Nat.le_refl _ | omega | (simp; done) | (simp; omega)) _)))
      refine HK.out _ _ (keeps_below hgr) (KeepsB.of hgr hbl.size) ⟨⟨HH.out.below hgr, HX.out.below hgr⟩, Below.on hbl hgr, Nat.le_trans hs0 hgr.size⟩ ⟨W.heap.size, W.heap.size + 1, _, _, _, _, _, _, by omega, by omega, (Box.new _ _ _).alloc _, Box.new1 _ _ _ _, K4.out, K4'.out, ?_⟩
      rw [K4.out, K4'.out]
    case body =>
      rintro l pre x a' W hl ⟨r, hr⟩ ⟨⟨⟨sa, sb, sd, bs, hsx, hso, hsf⟩, hbx⟩, hbl, hs0⟩ ⟨B7, B8, a, b, d, e, f, g, hB7, hB8, hx7, hx8, hv7, hv8, rfl⟩ hlt
      obtain ⟨-, -, A1, d1, A2, d2, -, -, -, -, k4, ra⟩ := H.out.val x.2 hbl
      obtain ⟨-, -, A1', d1', A2', d2', -, -, -, -, k4', rb⟩ := H'.out.val (show x.1 < ss.length by have := HL.out; omega) hbl
      rw [k4] at hv7 ⊢
      rw [k4'] at hv8 ⊢
      simp only [Value.agg.injEq, Array.mk.injEq, List.cons.injEq, and_true] at hv7 hv8
      obtain ⟨rfl, rfl, rfl⟩ := hv7
      obtain ⟨rfl, rfl, rfl⟩ := hv8
      obtain ⟨As, cs, As', cs', es, hsr⟩ : ∃ As cs As' cs', Value.agg #[sa, sb, sd] = .agg #[.bool (rawOf (dotQ rs ss pre)).neg, .slice As (rawOf (dotQ rs ss pre)).xs.length cs, .slice As' (rawOf (dotQ rs ss pre)).ys.length cs'] ∧ RawAt B W (.agg #[sa, sb, sd]) (rawOf (dotQ rs ss pre)) := by
        have h := hso.reads B
        obtain ⟨As, cs, As', cs', e, -⟩ := id h
        exact ⟨As, cs, As', cs', e, h⟩
      simp only [Value.agg.injEq, Array.mk.injEq, List.cons.injEq, and_true] at es
      obtain ⟨rfl, rfl, rfl⟩ := es
      have hfit := dot_fits (m := rs.length) (K := K) (rs := rs) (ss := ss) (fun i => Raw.q_le (H.out.small i.2) (HK.out i.1 i.2) hK1) (fun i => Raw.q_le (H'.out.small (by have := i.2; have := HL.out; omega)) (HK'.out i.1 (by have := i.2; have := HL.out; omega)) hK1) pre 0 1 (fits_int (n := 0) (by decide))
      have hpl : pre.length * (2 * K + 1) + (2 * K + 1) ≤ rs.length * (2 * K + 1) := by
        have := Nat.mul_le_mul_right (2 * K + 1) (show pre.length + 1 ≤ rs.length from hlt)
        rwa [Nat.add_mul, Nat.one_mul] at this
      have HFit : Hid ((rawOf (dotQ rs ss pre)).le 1099511627776) := hfit.mono (show _ ≤ 1099511627776 by omega)
      have hka := HK.out x.1 x.2
      have hkb := HK'.out x.1 (by have := HL.out; have := x.2; omega)
      have hfp : Fits (K + K) ((raw rs x.1).q * (raw ss x.1).q) := (Raw.q_le ra.small hka hK1).mul (Raw.q_le rb.small hkb hK1)
      have HFP : Hid ((rawOf ((raw rs x.1).q * (raw ss x.1).q)).le 1099511627776) := hfp.mono (show K + K ≤ 1099511627776 by omega)
      have HA := Lib.hid ra
      have HB := Lib.hid rb
      have HS := Lib.hid hsr
      have X6 := Lib.hid hsx
      have X7 := Lib.hid hx7
      have X8 := Lib.hid hx8
      have XR := Lib.hid hbx
      have T0 := Lib.hid (HT.out.below hbl)
      have HKA := Lib.hid hka
      have HKB := Lib.hid hkb
      clear ra rb hsr hsx hso hsf hx7 hx8 hbx k4 k4' hfit hfp hka hkb hr hl
      (((try clear X6c1 X6c2 X6c3 X6c4 X6c5 X6c6); obtain ⟨X6c1, X6c2, X6c3, X6c4, X6c5, X6c6⟩ := Box.three (Hid.out X6)))
      (((try clear X7c1 X7c2 X7c3 X7c4 X7c5 X7c6); obtain ⟨X7c1, X7c2, X7c3, X7c4, X7c5, X7c6⟩ := Box.three (Hid.out X7)))
      (((try clear X8c1 X8c2 X8c3 X8c4 X8c5 X8c6); obtain ⟨X8c1, X8c2, X8c3, X8c4, X8c5, X8c6⟩ := Box.three (Hid.out X8)))
      have hsW := hbl.size
      have hb0 := Below.refl W.heap.size W
      have h1' : 1 ≤ 9 - 1 - 1 := by omega
      gi_wp2_with (fail)
      gi_region_with (first
        | (refine ⟨trivial, ?_⟩; gi_at_call 27; ((with_reducible refine (CallsIn.inRound l (callsIn_wide.2 (rmul_calls _ _ _ (raw rs x.1) (raw ss x.1) K (B := B) (HA.out.below (by ((repeat (first | assumption | exact Below.refl _ _ | refine Below.drew ?_ | refine below_drewN ?_ _ | refine Below.alloc' ?_ _ | refine Below.setCell ?_ (by first | omega | (dsimp only; omega) | (simp; done) | (simp; omega)) _ | refine Below.alloc ?_ (by first | assumption | exact Nat.le_refl _ | omega | (simp; done) | (simp; omega)) _))))) (HB.out.below (by ((repeat (first | assumption | exact Below.refl _ _ | refine Below.drew ?_ | refine below_drewN ?_ _ | refine Below.alloc' ?_ _ | refine Below.setCell ?_ (by first | omega | (dsimp only; omega) | (simp; done) | (simp; omega)) _ | refine Below.alloc ?_ (by first | assumption | exact Nat.le_refl _ | omega | (simp; done) | (simp; omega)) _))))) (T0.out.below (by ((repeat (first | assumption | exact Below.refl _ _ | refine Below.drew ?_ | refine below_drewN ?_ _ | refine Below.alloc' ?_ _ | refine Below.setCell ?_ (by first | omega | (dsimp only; omega) | (simp; done) | (simp; omega)) _ | refine Below.alloc ?_ (by first | assumption | exact Nat.le_refl _ | omega | (simp; done) | (simp; omega)) _))))) HKA.out HKB.out (by omega) hK1 (by first | omega | (simp; omega))))).mono ?_); rintro e w7 ⟨v7, b7, rfl, hO7, hF7, hB7⟩; obtain ⟨A7, c7, A7', c7', rfl, -, -, -, -⟩ := id (OwnQ.reads hO7 B); have O7 := Lib.hid hO7; clear hO7 hF7; ((replace X6 := Lib.hid (Box.below (Box.below (Hid.out X6) (by ((repeat (first | assumption | exact Below.refl _ _ | refine Below.drew ?_ | refine below_drewN ?_ _ | refine Below.alloc' ?_ _ | refine Below.setCell ?_ (by first | omega | (dsimp only; omega) | (simp; done) | (simp; omega)) _ | refine Below.alloc ?_ (by first | assumption | exact Nat.le_refl _ | omega | (simp; done) | (simp; omega)) _))))) hB7); (try clear X6c1 X6c2 X6c3 X6c4 X6c5 X6c6); obtain ⟨X6c1, X6c2, X6c3, X6c4, X6c5, X6c6⟩ := Box.three (Hid.out X6); have := Box.lt (Hid.out X6))); ((replace X7 := Lib.hid (Box.below (Box.below (Hid.out X7) (by ((repeat (first | assumption | exact Below.refl _ _ | refine Below.drew ?_ | refine below_drewN ?_ _ | refine Below.alloc' ?_ _ | refine Below.setCell ?_ (by first | omega | (dsimp only; omega) | (simp; done) | (simp; omega)) _ | refine Below.alloc ?_ (by first | assumption | exact Nat.le_refl _ | omega | (simp; done) | (simp; omega)) _))))) hB7); (try clear X7c1 X7c2 X7c3 X7c4 X7c5 X7c6); obtain ⟨X7c1, X7c2, X7c3, X7c4, X7c5, X7c6⟩ := Box.three (Hid.out X7); have := Box.lt (Hid.out X7))); ((replace X8 := Lib.hid (Box.below (Box.below (Hid.out X8) (by ((repeat (first | assumption | exact Below.refl _ _ | refine Below.drew ?_ | refine below_drewN ?_ _ | refine Below.alloc' ?_ _ | refine Below.setCell ?_ (by first | omega | (dsimp only; omega) | (simp; done) | (simp; omega)) _ | refine Below.alloc ?_ (by first | assumption | exact Nat.le_refl _ | omega | (simp; done) | (simp; omega)) _))))) hB7); (try clear X8c1 X8c2 X8c3 X8c4 X8c5 X8c6); obtain ⟨X8c1, X8c2, X8c3, X8c4, X8c5, X8c6⟩ := Box.three (Hid.out X8); have := Box.lt (Hid.out X8))); (replace T0 := Lib.hid (Tab.below (Tab.below (Hid.out T0) (by ((repeat (first | assumption | exact Below.refl _ _ | refine Below.drew ?_ | refine below_drewN ?_ _ | refine Below.alloc' ?_ _ | refine Below.setCell ?_ (by first | omega | (dsimp only; omega) | (simp; done) | (simp; omega)) _ | refine Below.alloc ?_ (by first | assumption | exact Nat.le_refl _ | omega | (simp; done) | (simp; omega)) _))))) hB7)); (replace HS := Lib.hid (RawAt.below (RawAt.below (Hid.out HS) (by ((repeat (first | assumption | exact Below.refl _ _ | refine Below.drew ?_ | refine below_drewN ?_ _ | refine Below.alloc' ?_ _ | refine Below.setCell ?_ (by first | omega | (dsimp only; omega) | (simp; done) | (simp; omega)) _ | refine Below.alloc ?_ (by first | assumption | exact Nat.le_refl _ | omega | (simp; done) | (simp; omega)) _))))) hB7)); ((replace hb0 := Below.on (Below.on hb0 (by ((repeat (first | assumption | exact Below.refl _ _ | refine Below.drew ?_ | refine below_drewN ?_ _ | refine Below.alloc' ?_ _ | refine Below.setCell ?_ (by first | omega | (dsimp only; omega) | (simp; done) | (simp; omega)) _ | refine Below.alloc ?_ (by first | assumption | exact Nat.le_refl _ | omega | (simp; done) | (simp; omega)) _))))) hB7; have := Below.size hb0))))
        | (refine ⟨trivial, ?_⟩; gi_at_call 26; ((with_reducible refine (CallsIn.inRound l (callsIn_wide.2 (radd_calls _ _ _ (rawOf (dotQ rs ss pre)) (rawOf ((raw rs x.1).q * (raw ss x.1).q)) 1099511627776 (B := B) (HS.out.below (by ((repeat (first | assumption | exact Below.refl _ _ | refine Below.drew ?_ | refine below_drewN ?_ _ | refine Below.alloc' ?_ _ | refine Below.setCell ?_ (by first | omega | (dsimp only; omega) | (simp; done) | (simp; omega)) _ | refine Below.alloc ?_ (by first | assumption | exact Nat.le_refl _ | omega | (simp; done) | (simp; omega)) _))))) ((OwnQ.reads O7.out B).below (by ((repeat (first | assumption | exact Below.refl _ _ | refine Below.drew ?_ | refine below_drewN ?_ _ | refine Below.alloc' ?_ _ | refine Below.setCell ?_ (by first | omega | (dsimp only; omega) | (simp; done) | (simp; omega)) _ | refine Below.alloc ?_ (by first | assumption | exact Nat.le_refl _ | omega | (simp; done) | (simp; omega)) _))))) (T0.out.below (by ((repeat (first | assumption | exact Below.refl _ _ | refine Below.drew ?_ | refine below_drewN ?_ _ | refine Below.alloc' ?_ _ | refine Below.setCell ?_ (by first | omega | (dsimp only; omega) | (simp; done) | (simp; omega)) _ | refine Below.alloc ?_ (by first | assumption | exact Nat.le_refl _ | omega | (simp; done) | (simp; omega)) _))))) HFit.out HFP.out (by omega) (by omega) (by first | omega | (simp; omega))))).mono ?_); rw [rawOf_q, rawOf_q, ← dotQ_snoc]; rintro e w8 ⟨v8, b8, rfl, hO8, hF8, hB8⟩; obtain ⟨A8, c8, A8', c8', rfl, -, -, -, -⟩ := id (OwnQ.reads hO8 B); have O8 := Lib.hid hO8; have F8 := Lib.hid hF8; clear hO8 hF8; ((replace X6 := Lib.hid (Box.below (Box.below (Hid.out X6) (by ((repeat (first | assumption | exact Below.refl _ _ | refine Below.drew ?_ | refine below_drewN ?_ _ | refine Below.alloc' ?_ _ | refine Below.setCell ?_ (by first | omega | (dsimp only; omega) | (simp; done) | (simp; omega)) _ | refine Below.alloc ?_ (by first | assumption | exact Nat.le_refl _ | omega | (simp; done) | (simp; omega)) _))))) hB8); (try clear X6c1 X6c2 X6c3 X6c4 X6c5 X6c6); obtain ⟨X6c1, X6c2, X6c3, X6c4, X6c5, X6c6⟩ := Box.three (Hid.out X6); have := Box.lt (Hid.out X6))); ((replace hb0 := Below.on (Below.on hb0 (by ((repeat (first | assumption | exact Below.refl _ _ | refine Below.drew ?_ | refine below_drewN ?_ _ | refine Below.alloc' ?_ _ | refine Below.setCell ?_ (by first | omega | (dsimp only; omega) | (simp; done) | (simp; omega)) _ | refine Below.alloc ?_ (by first | assumption | exact Nat.le_refl _ | omega | (simp; done) | (simp; omega)) _))))) hB8; have := Below.size hb0)))))
      all_goals
        have hws := hbl.size
        have hb6 : Below w.heap.size W w8 := hb0.mono hbl.size
        gi_wp2_with (fail)
        exact ⟨keeps_set3 (keeps_below hb0) _ _ _ _, (KeepsB.of hb0 hbl.size).set3 (by omega) (by omega) _ _ _, ⟨⟨_, _, _, b8, X6.out.put3 _ _ _, O8.out.set3 X6.out (by decide) _ _ _, (F8.out.low (by omega)).up (by simp)⟩, (XR.out.below hb0).far3 (by omega) _ _ _⟩, Below_set3 (Below.on hbl hb0) (by omega) _ _ _, by simp; omega⟩
    case done =>
      rintro D zs W hD hxs ⟨⟨⟨sa, sb, sd, bs, hsx, hso, hsf⟩, hbx⟩, hbl, hs0⟩ hK
      obtain ⟨As, cs, As', cs', es, hsr⟩ : ∃ As cs As' cs', Value.agg #[sa, sb, sd] = .agg #[.bool (rawOf (dotQ rs ss zs)).neg, .slice As (rawOf (dotQ rs ss zs)).xs.length cs, .slice As' (rawOf (dotQ rs ss zs)).ys.length cs'] ∧ RawAt B W (.agg #[sa, sb, sd]) (rawOf (dotQ rs ss zs)) := by
        have h := hso.reads B
        obtain ⟨As, cs, As', cs', e, -⟩ := id h
        exact ⟨As, cs, As', cs', e, h⟩
      simp only [Value.agg.injEq, Array.mk.injEq, List.cons.injEq, and_true] at es
      obtain ⟨rfl, rfl, rfl⟩ := es
      have HO := Lib.hid hso
      have HFr := Lib.hid hsf
      have X6 := Lib.hid hsx
      have XR := Lib.hid hbx
      have HX := Lib.hid hxs
      clear hso hsf hsx hbx hsr hxs
      (((try clear X6c1 X6c2 X6c3 X6c4 X6c5 X6c6); obtain ⟨X6c1, X6c2, X6c3, X6c4, X6c5, X6c6⟩ := Box.three (Hid.out X6)))
      (((try clear XRc1 XRc2 XRc3 XRc4 XRc5 XRc6); obtain ⟨XRc1, XRc2, XRc3, XRc4, XRc5, XRc6⟩ := Box.three (Hid.out XR)))
      gi_wp2
      have z1 := XR.out.put3 (.bool (rawOf (dotQ rs ss zs)).neg) (.slice As (rawOf (dotQ rs ss zs)).xs.length cs) (.slice As' (rawOf (dotQ rs ss zs)).ys.length cs')
      have z2 := HO.out.set3 XR.out (by decide) (.bool (rawOf (dotQ rs ss zs)).neg) (.slice As (rawOf (dotQ rs ss zs)).xs.length cs) (.slice As' (rawOf (dotQ rs ss zs)).ys.length cs')
      have z3 := Below_set3 hbl (Nat.le_refl w.heap.size) (.bool (rawOf (dotQ rs ss zs)).neg) (.slice As (rawOf (dotQ rs ss zs)).xs.length cs) (.slice As' (rawOf (dotQ rs ss zs)).ys.length cs')
      have hK' := (kept_set3 hK rfl w.heap.size (.bool (rawOf (dotQ rs ss zs)).neg) (.slice As (rawOf (dotQ rs ss zs)).xs.length cs) (.slice As' (rawOf (dotQ rs ss zs)).ys.length cs'))
      have z4 : Fresh w.heap.size (((W.setCell ⟨w.heap.size, 0, none⟩ (.bool (rawOf (dotQ rs ss zs)).neg)).setCell ⟨w.heap.size, 1, none⟩ (.slice As (rawOf (dotQ rs ss zs)).xs.length cs)).setCell ⟨w.heap.size, 2, none⟩ (.slice As' (rawOf (dotQ rs ss zs)).ys.length cs')) bs := HFr.out.up (by simp)
      refine ⟨by simp, .inl ⟨_, _, rfl, run_takeDeferred hK', ?_⟩⟩
      have hgb := grownBy_putObj' (((W.setCell ⟨w.heap.size, 0, none⟩ (.bool (rawOf (dotQ rs ss zs)).neg)).setCell ⟨w.heap.size, 1, none⟩ (.slice As (rawOf (dotQ rs ss zs)).xs.length cs)).setCell ⟨w.heap.size, 2, none⟩ (.slice As' (rawOf (dotQ rs ss zs)).ys.length cs')) D (.deferred none)
      refine ⟨_, result_var2 rfl (g := w.heap.size) rfl rfl (load_rat _ _ _ _ _ (z1.kept hgb (fun r e => by cases e; exact ⟨_, hK', rfl⟩))), fun h => absurd ⟨HL.out, HF.out.1, HF.out.2⟩ h, fun _ _ _ => ⟨_, bs, rfl, ?_, z4.kept hgb⟩, z3.trans (belowK_b (w := W0) hBW.size _ D _ _ hD hK' rfl rfl)⟩
      rw [← HX.out]
      exact z2.kept hgb (fun r e => by cases e; exact ⟨_, hK', rfl⟩)
    case stop =>
      rintro D cd pre W _ _ h _
      exact h.elim
  · have HF := Lib.hid hf
    have hff : (decide (rs.length = ss.length) && allOk rs && allOk ss) = false := by simpa using hf
    clear hf
    gi_wp2_with (fail)
    refine ⟨.tuple #[.agg #[.bool false, .slice none 0 0, .slice none 0 0], .int .i64 1], result_var2 rfl (g := w.heap.size) rfl rfl (load_rat _ _ _ _ _ (B0.out.put3 _ _ _)), fun _ => rfl, fun h1 h2 h3 => absurd (by rw [h2, h3, decide_eq_true h1]; rfl) HF.out, by ((repeat (first | assumption | exact Below.refl _ _ | refine Below.drew ?_ | refine below_drewN ?_ _ | refine Below.alloc' ?_ _ | refine Below.setCell ?_ (by first | omega | (dsimp only; omega) | (simp; done) | (simp; omega)) _ | refine Below.alloc ?_ (by first | assumption | exact Nat.le_refl _ | omega | (simp; done) | (simp; omega)) _)))⟩

end Go.Proofs.YthofbikhomnjpaaGreatDoor
