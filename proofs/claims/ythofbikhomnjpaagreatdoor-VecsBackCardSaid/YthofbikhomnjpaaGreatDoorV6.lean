import Derived.Test.YthofbikhomnjpaaGreatDoorV5
import Derived.Test.YthofbikhomnjpaaGreatDoorInvIn
namespace Go.Proofs.YthofbikhomnjpaaGreatDoor
open Go.RowKit Go.Shelf
set_option linter.unusedVariables false
set_option linter.unusedSimpArgs false
attribute [local go_sem] Oper.semAt_some

/-- The first list, and so many times the second one, at some places. -/
def addQ {m : Nat} (rs ss : List Raw) (q : Rat) (pre : List (Fin m)) : List Rat := pre.map fun i => (raw rs i.1).q + (raw ss i.1).q * q
theorem addQ_snoc {m : Nat} (rs ss : List Raw) (q : Rat) (pre : List (Fin m)) (i : Fin m) : addQ rs ss q (pre ++ [i]) = addQ rs ss q pre ++ [(raw rs i.1).q + (raw ss i.1).q * q] := by simp [addQ]
theorem addQ_length {m : Nat} (rs ss : List Raw) (q : Rat) (pre : List (Fin m)) : (addQ rs ss q pre).length = pre.length := by simp [addQ]
theorem load_list (w : World) (g : Nat) (v : Value) (hb : Box w g 23 #[v]) : (loadVar 23 ⟨g, 0, none⟩).run Tryz.prog w = .ok v w := by
  have h := hb.cell 0
  have h' : w.cell? ⟨g, 0, none⟩ = some v := h
  simp [loadVar, isAgg, run_underlying Tryz.underlying23, go_sem, h']
theorem OwnV.kept {n₀ : Nat} {W W' : World} {row : Option Nat} {v : Value} {qs : List Rat} {bs : List Nat} (h : OwnV n₀ W v qs bs) (hg : W.grownBy W' row) (hrow : ∀ r, row = some r → ∃ o : Obj, W.heap[r]? = some o ∧ o.isCells = false) : OwnV n₀ W' v qs bs := by
  obtain ⟨ts, h1, h2, h3⟩ := h
  refine ⟨ts, h1.kept hg ?_, h2.map (fun v q b h => h.kept hg hrow), h3.kept hg⟩
  rcases h1.2 with ⟨rfl, _⟩ | ⟨g, cap, cur, rfl, _, hgb, _⟩
  · exact .inl rfl
  · refine .inr fun e' => ?_
    obtain ⟨o, ho, hc⟩ := hrow g (by simpa [Value.ownBlock] using e'.symm)
    rw [hgb] at ho; cases ho; cases hc
theorem OwnV.set {n₀ : Nat} {W : World} {v : Value} {qs : List Rat} {bs : List Nat} (h : OwnV n₀ W v qs bs) {g : Nat} {t : TypeId} {cs : Array Value} (hx : Box W g t cs) (ht : t ≠ 62) (ht' : t ≠ 36) (i : Nat) (u : Value) : OwnV n₀ (W.setCell ⟨g, i, none⟩ u) v qs bs := by
  obtain ⟨ts, h1, h2, h3⟩ := h
  have hg : W.grownBy (W.setCell ⟨g, i, none⟩ u) (some g) := ⟨rfl, rfl, rfl, by simp, fun k _ hk => Below.heap_setCell _ _ _ k (fun e => hk (by rw [e]))⟩
  refine ⟨ts, h1.kept hg ?_, h2.map (fun v q b h => h.set hx ht i u), h3.up (by simp)⟩
  rcases h1.2 with ⟨rfl, _⟩ | ⟨g', cap, cur, rfl, _, hgb, _⟩
  · exact .inl rfl
  · refine .inr fun e' => ?_
    have : g' = g := by simpa [Value.ownBlock] using e'
    subst this
    have h5 := hgb.symm.trans hx
    simp at h5
    exact ht' h5.2.symm

set_option maxRecDepth 100000 in
set_option maxHeartbeats 4000000 in
theorem vadd_calls (w : World) (A A' : Option Addr) (c c' : Nat) (rs ss : List Raw) (vq : Value) (r : Raw) (K : Nat) {B : Nat} (h : RatsAt B w A rs) (h' : RatsAt B w A' ss) (hc : rs.length ≤ c) (hc' : ss.length ≤ c') (hq : RawAt B w vq r) (hT : Tab w) (hBw : B ≤ w.heap.size) (hK : allLe K rs) (hK' : allLe K ss) (hk : r.le K) (hK1 : 1 ≤ K) (hKs : 2 * K ≤ 1099511627776) :
    Calls Tryz.prog 22 #[.slice A rs.length c, .slice A' ss.length c', vq] w fun e w' =>
      (¬ (rs.length = ss.length ∧ allOk rs = true ∧ allOk ss = true ∧ r.ok = true) → e = .returned (.tuple #[.slice none 0 0, .int .i64 1])) ∧
      (rs.length = ss.length → allOk rs = true → allOk ss = true → r.ok = true → ∃ v bs, e = .returned (.tuple #[v, .int .i64 0]) ∧ OwnV w.heap.size w' v (addQ rs ss r.q (List.finRange rs.length)) bs) ∧ Below w.heap.size w w' := by
  have hl := h.1
  obtain ⟨D, d, D', d', rfl, -, -, -, -⟩ := id hq
  have hk1 := hk.1
  have hk2 := hk.2
  have H := Lib.hid h
  have H' := Lib.hid h'
  have HT := Lib.hid hT
  have HK := Lib.hid hK
  have HK' := Lib.hid hK'
  have HQ := Lib.hid hq
  have HKR := Lib.hid hk
  clear h h' hT hK hK' hq hk
  obtain ⟨i0, hi0, hz0, hz1, hz2⟩ := info_parts info_rat
  refine (callsIn_wide (n := 9)).1 ?_
  refine callsIn_of_wp_marks Tryz.func22 rfl trivial ?_ rfl
  simp only [Tryz.ntmps22, List.size_toArray, List.length_cons, List.length_nil, Nat.reduceAdd, Nat.reduceSub, Array.replicate_succ, Array.replicate_zero, List.push_toArray, List.append_toArray, List.nil_append, List.cons_append]
  gi_wp2_with (fail)
  obtain ⟨w3, h3, hB, b0, b1⟩ := boxes2 w 36 23 #[.bool r.neg, .slice D r.xs.length d, .slice D' r.ys.length d'] #[.slice none 0 0]
  rw [← h3]
  have B0 := Lib.hid b0
  have B1 := Lib.hid b1
  clear h3 b0 b1
  have hs3 := hB.size
  refine ⟨trivial, ?_⟩
  refine (callsIn_wide.2 (fit_calls _ _ _ _ _ rs ss (H.out.below hB) (H'.out.below hB) hc hc' (HT.out.below hB) (fun i hi => ⟨Nat.le_trans (HK.out i hi).1 (by omega), Nat.le_trans (HK.out i hi).2 (by omega)⟩) (fun i hi => ⟨Nat.le_trans (HK'.out i hi).1 (by omega), Nat.le_trans (HK'.out i hi).2 (by omega)⟩))).mono ?_
  rintro e w4 ⟨rfl, hB4⟩
  ((replace B0 := Lib.hid (Box.below (Box.below (Hid.out B0) (by ((repeat (first | assumption | exact Below.refl _ _ | refine Below.drew ?_ | refine below_drewN ?_ _ | refine Below.alloc' ?_ _ | refine Below.setCell ?_ (by first | omega | (dsimp only; omega) | (simp; done) | (simp; omega)) _ | refine Below.alloc ?_ (by first | assumption | exact Nat.le_refl _ | omega | (simp; done) | (simp; omega)) _))))) hB4); (try clear B0c1 B0c2 B0c3 B0c4 B0c5 B0c6); obtain ⟨B0c1, B0c2, B0c3, B0c4, B0c5, B0c6⟩ := Box.three (Hid.out B0); have := Box.lt (Hid.out B0)))
  ((replace B1 := Lib.hid (Box.below (Box.below (Hid.out B1) (by ((repeat (first | assumption | exact Below.refl _ _ | refine Below.drew ?_ | refine below_drewN ?_ _ | refine Below.alloc' ?_ _ | refine Below.setCell ?_ (by first | omega | (dsimp only; omega) | (simp; done) | (simp; omega)) _ | refine Below.alloc ?_ (by first | assumption | exact Nat.le_refl _ | omega | (simp; done) | (simp; omega)) _))))) hB4); (try clear B1c1 B1c2); obtain ⟨B1c1, B1c2⟩ := Box.one (Hid.out B1); have := Box.lt (Hid.out B1)))
  ((replace hB := Below.on (Below.on hB (by ((repeat (first | assumption | exact Below.refl _ _ | refine Below.drew ?_ | refine below_drewN ?_ _ | refine Below.alloc' ?_ _ | refine Below.setCell ?_ (by first | omega | (dsimp only; omega) | (simp; done) | (simp; omega)) _ | refine Below.alloc ?_ (by first | assumption | exact Nat.le_refl _ | omega | (simp; done) | (simp; omega)) _))))) hB4; have := Below.size hB))
  by_cases hf : (decide (rs.length = ss.length) && allOk rs && allOk ss) = true
  · have hlen : rs.length = ss.length := by simp only [Bool.and_eq_true, decide_eq_true_eq] at hf; exact hf.1.1
    have HL := Lib.hid hlen
    have HF : Hid (allOk rs = true ∧ allOk ss = true) := by simp only [Bool.and_eq_true, decide_eq_true_eq] at hf; exact ⟨hf.1.2, hf.2⟩
    clear hlen
    gi_wp2_with (fail)
    refine ⟨trivial, ?_⟩
    refine (callsIn_wide.2 (rcheck_calls _ _ r (HQ.out.below hB) (HT.out.below hB) (by omega))).mono ?_
    rintro e w5 ⟨rfl, hB5⟩
    ((replace B0 := Lib.hid (Box.below (Box.below (Hid.out B0) (by ((repeat (first | assumption | exact Below.refl _ _ | refine Below.drew ?_ | refine below_drewN ?_ _ | refine Below.alloc' ?_ _ | refine Below.setCell ?_ (by first | omega | (dsimp only; omega) | (simp; done) | (simp; omega)) _ | refine Below.alloc ?_ (by first | assumption | exact Nat.le_refl _ | omega | (simp; done) | (simp; omega)) _))))) hB5); (try clear B0c1 B0c2 B0c3 B0c4 B0c5 B0c6); obtain ⟨B0c1, B0c2, B0c3, B0c4, B0c5, B0c6⟩ := Box.three (Hid.out B0); have := Box.lt (Hid.out B0)))
    ((replace B1 := Lib.hid (Box.below (Box.below (Hid.out B1) (by ((repeat (first | assumption | exact Below.refl _ _ | refine Below.drew ?_ | refine below_drewN ?_ _ | refine Below.alloc' ?_ _ | refine Below.setCell ?_ (by first | omega | (dsimp only; omega) | (simp; done) | (simp; omega)) _ | refine Below.alloc ?_ (by first | assumption | exact Nat.le_refl _ | omega | (simp; done) | (simp; omega)) _))))) hB5); (try clear B1c1 B1c2); obtain ⟨B1c1, B1c2⟩ := Box.one (Hid.out B1); have := Box.lt (Hid.out B1)))
    ((replace hB := Below.on (Below.on hB (by ((repeat (first | assumption | exact Below.refl _ _ | refine Below.drew ?_ | refine below_drewN ?_ _ | refine Below.alloc' ?_ _ | refine Below.setCell ?_ (by first | omega | (dsimp only; omega) | (simp; done) | (simp; omega)) _ | refine Below.alloc ?_ (by first | assumption | exact Nat.le_refl _ | omega | (simp; done) | (simp; omega)) _))))) hB5; have := Below.size hB))
    cases hok : r.ok
    · gi_wp2_with (fail)
      refine ⟨.tuple #[.slice none 0 0, .int .i64 1], result_var2 rfl (g := w.heap.size + 1) rfl rfl (load_list _ _ _ (B1.out.set 0 (.slice none 0 0))), fun _ => rfl, fun _ _ _ h4 => absurd h4 (by rw [hok]; simp), by ((repeat (first | assumption | exact Below.refl _ _ | refine Below.drew ?_ | refine below_drewN ?_ _ | refine Below.alloc' ?_ _ | refine Below.setCell ?_ (by first | omega | (dsimp only; omega) | (simp; done) | (simp; omega)) _ | refine Below.alloc ?_ (by first | assumption | exact Nat.le_refl _ | omega | (simp; done) | (simp; omega)) _)))⟩
    · gi_wp2_with (fail)
      refine ⟨trivial, ?_⟩
      refine (callsIn_wide.2 (both_calls _ _ _ _ _ _ _)).mono ?_
      rintro e w6 ⟨rfl, hw6⟩
      gi_wp2_with (fail)
      obtain ⟨W0, hW0⟩ : ∃ W0, W0 = (w5.alloc (.cells #[.slice A rs.length c] 23)).alloc (.cells #[.slice A' ss.length c'] 23) := ⟨_, rfl⟩
      rw [← hW0]
      have hg0 : Below w5.heap.size w5 W0 := by rw [hW0]; ((repeat (first | assumption | exact Below.refl _ _ | refine Below.drew ?_ | refine below_drewN ?_ _ | refine Below.alloc' ?_ _ | refine Below.setCell ?_ (by first | omega | (dsimp only; omega) | (simp; done) | (simp; omega)) _ | refine Below.alloc ?_ (by first | assumption | exact Nat.le_refl _ | omega | (simp; done) | (simp; omega)) _)))
      have y1 : W0.cell? ⟨w5.heap.size, 0, none⟩ = some (.slice A rs.length c) := by rw [hW0]; exact ((Box.new _ _ _).alloc _).cell 0
      have y2 : W0.cell? ⟨w5.heap.size + 1, 0, none⟩ = some (.slice A' ss.length c') := by rw [hW0]; exact (Box.new' _ _ _ (by simp)).cell 0
      have hsz0 : W0.heap.size = w5.heap.size + 1 + 1 := by rw [hW0]; simp
      have hBW := Below.on hB hg0
      have BR := Lib.hid (B0.out.below hg0)
      have BO := Lib.hid (B1.out.below hg0)
      have Y1 := Lib.hid y1
      have Y2 := Lib.hid y2
      clear hW0 hw6 y1 y2
      have hs5 : w.heap.size + 1 < w5.heap.size := B1.out.lt
      clear B0c1 B0c2 B0c3 B0c4 B0c5 B0c6 B1c1 B1c2
      refine wpIn_rangeFunc_ownH rfl (by omega) (gf := 94) (lb := #[.pointer (some ⟨w5.heap.size, 0, none⟩), .pointer (some ⟨w5.heap.size + 1, 0, none⟩)]) rfl trivial (enters_of Tryz.func94 (by kernel_rfl) rfl)
        (both_stops 8 (by omega) (w5.heap.size) (w5.heap.size + 1) A A' c c' rs ss HL.out w W0 Y1.out Y2.out H.out H'.out hBW) KeepsB.trans (keepsB_put hBW.size (by omega)) (Below.refl _ _) (fun _ => rfl)
        (fun pre W => ((∃ v bs, Box W (w.heap.size + 1) 23 #[v] ∧ OwnV W0.heap.size W v (addQ rs ss r.q pre) bs) ∧ Box W w.heap.size 36 #[.bool r.neg, .slice D r.xs.length d, .slice D' r.ys.length d']) ∧ (Below w.heap.size w W ∧ W0.heap.size ≤ W.heap.size))
        (fun _ _ _ => False)
        (OwnFrom.and (fun s X Y row h hg hr => ⟨by obtain ⟨⟨v, bs, h1, h2⟩, _⟩ := h; exact ⟨v, bs, h1.kept hg (fun r e => (hr r e).2), h2.kept hg (fun r e => (hr r e).2)⟩, h.2.kept hg (fun r e => (hr r e).2)⟩) (OwnFrom.and (ownFrom_below (Nat.le_refl _) hBW.size) (fun s X Y row h hg hr => Nat.le_trans h hg.size)))
        (fun _ _ _ _ _ hs _ _ => hs)
        ⟨⟨⟨_, [], BO.out, OwnV.nil _ _⟩, BR.out⟩, hBW, Nat.le_refl _⟩
        (fun x a' W => ∃ B7 B8 a b d₁ e f g, W0.heap.size ≤ B7 ∧ W0.heap.size ≤ B8 ∧ Box W B7 36 #[a, b, d₁] ∧ Box W B8 36 #[e, f, g] ∧ ratv w A x.1 = .agg #[a, b, d₁] ∧ ratv w A' x.1 = .agg #[e, f, g] ∧
          a' = { tmps := #[.slice A rs.length c, .slice A' ss.length c', .agg #[.bool r.neg, .slice D r.xs.length d, .slice D' r.ys.length d'], undef, undef, .pointer (some ⟨w.heap.size, 0, none⟩), .pointer (some ⟨w.heap.size + 1, 0, none⟩), .int .i64 0, .pointer (some ⟨B7, 0, none⟩), .pointer (some ⟨B8, 0, none⟩), .slice A rs.length c, .slice A' ss.length c', .bool true, .bool false, .bool false, .agg #[.bool r.neg, .slice D r.xs.length d, .slice D' r.ys.length d'], .bool true, .bool false, .bool false, .slice A rs.length c, .slice A' ss.length c', .func (.func 94) #[] #[.pointer (some ⟨w5.heap.size, 0, none⟩), .pointer (some ⟨w5.heap.size + 1, 0, none⟩)], ratv w A x.1, ratv w A' x.1, undef, undef, undef, undef, undef, undef, undef, undef, undef], defers := [] })
        (fun x a' _ X Y row hs hg hr => by obtain ⟨B7, B8, a, b, d, e, f, g, h1, h2, h3, h4, h5⟩ := hs; exact ⟨B7, B8, a, b, d, e, f, g, h1, h2, h3.kept hg (fun r e => (hr r e).2), h4.kept hg (fun r e => (hr r e).2), h5⟩)
        ?assign ?body ?done ?stop
      case assign =>
        rintro l pre x W K' ⟨⟨⟨v, bs, hbo, hov⟩, hbx⟩, hbl, hs0⟩ hK
        obtain ⟨b, o, A1, d1, A2, d2, -, -, -, -, k4, -⟩ := H.out.val x.2 (Below.refl _ _)
        obtain ⟨b', o', A1', d1', A2', d2', -, -, -, -, k4', -⟩ := H'.out.val (show x.1 < ss.length by have := HL.out; omega) (Below.refl _ _)
        have HK := Lib.hid hK
        have HH := Lib.hid hbo
        have HV := Lib.hid hov
        have HX := Lib.hid hbx
        have K4 := Lib.hid k4
        have K4' := Lib.hid k4'
        clear hK hbo hov hbx
        dsimp only
        rw [k4, k4']
        clear k4 k4'
        gi_wp2
        have hgr : Below W.heap.size W ((W.alloc (.cells #[.bool (raw rs x.1).neg, .slice A1 (raw rs x.1).xs.length d1, .slice A2 (raw rs x.1).ys.length d2] 36)).alloc (.cells #[.bool (raw ss x.1).neg, .slice A1' (raw ss x.1).xs.length d1', .slice A2' (raw ss x.1).ys.length d2'] 36)) := by ((repeat (first | assumption | exact Below.refl _ _ | refine Below.drew ?_ | refine below_drewN ?_ _ | refine Below.alloc' ?_ _ | refine Below.setCell ?_ (by first | omega | (dsimp only; omega) | (simp; done) | (simp; omega)) _ | refine Below.alloc ?_ (by first | assumption | exact Nat.le_refl _ | omega | (simp; done) | (simp; omega)) _)))
        refine HK.out _ _ (keeps_below hgr) (KeepsB.of hgr hbl.size) ⟨⟨⟨v, bs, HH.out.below hgr, HV.out.below hgr⟩, HX.out.below hgr⟩, Below.on hbl hgr, Nat.le_trans hs0 hgr.size⟩ ⟨W.heap.size, W.heap.size + 1, _, _, _, _, _, _, by omega, by omega, (Box.new _ _ _).alloc _, Box.new1 _ _ _ _, K4.out, K4'.out, ?_⟩
        rw [K4.out, K4'.out]
      case body =>
        rintro l pre x a' W hl ⟨_, hr⟩ ⟨⟨⟨vo, bs, hbo, hov⟩, hbx⟩, hbl, hs0⟩ ⟨B7, B8, a, b, d₁, e, f, g, hB7, hB8, hx7, hx8, hv7, hv8, rfl⟩ hlt
        obtain ⟨-, -, A1, d1, A2, d2, -, -, -, -, k4, ra⟩ := H.out.val x.2 hbl
        obtain ⟨-, -, A1', d1', A2', d2', -, -, -, -, k4', rb⟩ := H'.out.val (show x.1 < ss.length by have := HL.out; omega) hbl
        rw [k4] at hv7 ⊢
        rw [k4'] at hv8 ⊢
        simp only [Value.agg.injEq, Array.mk.injEq, List.cons.injEq, and_true] at hv7 hv8
        obtain ⟨rfl, rfl, rfl⟩ := hv7
        obtain ⟨rfl, rfl, rfl⟩ := hv8
        have hka := HK.out x.1 x.2
        have hkb := HK'.out x.1 (by have := HL.out; have := x.2; omega)
        have HFP : Hid ((rawOf ((raw ss x.1).q * r.q)).le (2 * K)) := by have := (Raw.q_le rb.small hkb hK1).mul (Raw.q_le HQ.out.small HKR.out hK1); exact this.mono (by omega)
        have HA := Lib.hid ra
        have HB := Lib.hid rb
        have X6 := Lib.hid hbo
        have HV := Lib.hid hov
        have X7 := Lib.hid hx7
        have X8 := Lib.hid hx8
        have XR := Lib.hid hbx
        have T0 := Lib.hid (HT.out.below hbl)
        have RQ := Lib.hid (HQ.out.below hbl)
        have HKA : Hid ((raw rs x.1).le (2 * K)) := ⟨Nat.le_trans hka.1 (by omega), Nat.le_trans hka.2 (by omega)⟩
        have HKB := Lib.hid hkb
        clear ra rb hbo hov hx7 hx8 hbx k4 k4' hka hkb hr hl
        (((try clear X6c1 X6c2); obtain ⟨X6c1, X6c2⟩ := Box.one (Hid.out X6)))
        (((try clear X7c1 X7c2 X7c3 X7c4 X7c5 X7c6); obtain ⟨X7c1, X7c2, X7c3, X7c4, X7c5, X7c6⟩ := Box.three (Hid.out X7)))
        (((try clear X8c1 X8c2 X8c3 X8c4 X8c5 X8c6); obtain ⟨X8c1, X8c2, X8c3, X8c4, X8c5, X8c6⟩ := Box.three (Hid.out X8)))
        (((try clear XRc1 XRc2 XRc3 XRc4 XRc5 XRc6); obtain ⟨XRc1, XRc2, XRc3, XRc4, XRc5, XRc6⟩ := Box.three (Hid.out XR)))
        have hsW := hbl.size
        have hb0 := Below.refl W.heap.size W
        have h1' : 1 ≤ 9 - 1 - 1 := by omega
        gi_wp2_with (fail)
        obtain ⟨l0, hl0⟩ : ∃ l0, l0 = l := ⟨_, rfl⟩
        refine wpIn_region_inv (I := fun listed a w' => ∃ (b0 b1 b2 b3 b4 b5 b6 b7 b8 : Bool) (s24 s25 s26 s27 s28 s29 s30 s31 : Value), listed = #[b0, b1, b2, b3, b4, b5, b6, b7, b8] ∧
          a = { tmps := #[.slice A rs.length c, .slice A' ss.length c', .agg #[.bool r.neg, .slice D r.xs.length d, .slice D' r.ys.length d'], undef, undef, .pointer (some ⟨w.heap.size, 0, none⟩), .pointer (some ⟨w.heap.size + 1, 0, none⟩), .int .i64 0, .pointer (some ⟨B7, 0, none⟩), .pointer (some ⟨B8, 0, none⟩), .slice A rs.length c, .slice A' ss.length c', .bool true, .bool false, .bool false, .agg #[.bool r.neg, .slice D r.xs.length d, .slice D' r.ys.length d'], .bool true, .bool false, .bool false, .slice A rs.length c, .slice A' ss.length c', .func (.func 94) #[] #[.pointer (some ⟨w5.heap.size, 0, none⟩), .pointer (some ⟨w5.heap.size + 1, 0, none⟩)], .agg #[.bool (raw rs x.1).neg, .slice A1 (raw rs x.1).xs.length d1, .slice A2 (raw rs x.1).ys.length d2], .agg #[.bool (raw ss x.1).neg, .slice A1' (raw ss x.1).xs.length d1', .slice A2' (raw ss x.1).ys.length d2'], s24, s25, s26, s27, s28, s29, s30, s31, undef], defers := [] } ∧
          (b0 = true → s24 = vo) ∧ (b1 = true → s25 = .agg #[.bool (raw rs x.1).neg, .slice A1 (raw rs x.1).xs.length d1, .slice A2 (raw rs x.1).ys.length d2]) ∧ (b2 = true → s26 = .agg #[.bool (raw ss x.1).neg, .slice A1' (raw ss x.1).xs.length d1', .slice A2' (raw ss x.1).ys.length d2']) ∧ (b3 = true → s27 = .agg #[.bool r.neg, .slice D r.xs.length d, .slice D' r.ys.length d']) ∧
          (b4 = true → ∃ bs', OwnQ w' s28 ((raw ss x.1).q * r.q) bs') ∧
          (b5 = true → ∃ bs', OwnQ w' s29 ((raw rs x.1).q + (raw ss x.1).q * r.q) bs' ∧ Fresh W.heap.size w' bs') ∧
          (b6 = true → b7 = false → ∃ g p1 p2 p3, s30 = .slice (some ⟨g, 0, none⟩) 1 1 ∧ s29 = .agg #[p1, p2, p3] ∧ Box w' g 36 #[p1, p2, p3] ∧ [p1, p2, p3].all Value.oneCell' = true) ∧
          (b4 = true → b2 = true ∧ b3 = true) ∧ (b5 = true → b1 = true ∧ b4 = true) ∧ (b6 = true → b5 = true) ∧ (b7 = true → b0 = true ∧ b6 = true) ∧ (b8 = true → b7 = true) ∧
          (b7 = false → Below W.heap.size W w') ∧
          (b7 = true → (∃ bs', OwnV W0.heap.size w' s31 (addQ rs ss r.q (pre ++ [x])) bs') ∧ ∃ g n c, s31 = .slice (some ⟨g, 0, none⟩) n c) ∧
          (b8 = false → Box w' (w.heap.size + 1) 23 #[vo]) ∧ (b8 = true → Box w' (w.heap.size + 1) 23 #[s31]) ∧
          Box w' w.heap.size 36 #[.bool r.neg, .slice D r.xs.length d, .slice D' r.ys.length d'] ∧ KeepsFrom W0.heap.size W w' ∧ KeepsB w.heap.size (w5.heap.size + 1) W w' ) (by kernel_rfl) (by kernel_rfl) ?_ ?_ ?_
        · exact ⟨false, false, false, false, false, false, false, false, false, undef, undef, undef, undef, undef, undef, undef, undef, rfl, rfl, by simp, by simp, by simp, by simp, by simp, by simp, by simp, by simp, by simp, by simp, by simp, by simp, fun _ => (Below.refl _ _).drew, by simp, fun _ => X6.out, by simp, XR.out, (KeepsFrom.refl _ _).trans (keeps_below (Below.refl _ _).drew), KeepsB.of (Below.refl _ _).drew hsW⟩
        · rintro listed a w' i ⟨b0, b1, b2, b3, b4, b5, b6, b7, b8, s24, s25, s26, s27, s28, s29, s30, s31, rfl, rfl, h0, h1, h2, h3, h4, h5, h6, k4, k5, k6, k7, k8, hA, hV, hX0, hX1, hR, hKF, hKB⟩ - hi
          obtain ⟨hun, o, ho, hed⟩ := mem_ready.1 hi
          have hi8 : i < 9 := (Array.getElem?_eq_some_iff.1 ho).1
          match i, hi8 with
          | 0, _ =>
            have u0 : b0 = false := by simpa using hun
            have n7 : b7 = false := by
              cases hb7 : b7
              · rfl
              · exact absurd ((k7 hb7).1) (by rw [u0]; simp)
            have hbl7 := hA n7
            have n8 : b8 = false := by
              cases hb8 : b8
              · rfl
              · rw [k8 hb8] at n7; cases n7
            have Z := Lib.hid (hX0 n8)
            (((try clear Zc1 Zc2); obtain ⟨Zc1, Zc2⟩ := Box.one (Hid.out Z)))
            refine wpOpIn_step rfl (fun Kk hK => ?_)
            go_simp
            exact hK _ _ ⟨true, b1, b2, b3, b4, b5, b6, b7, b8, _, _, _, _, _, _, _, _, rfl, rfl, fun _ => rfl, h1, h2, h3, h4, h5, h6, k4, k5, k6, fun h => ⟨rfl, (k7 h).2⟩, k8, hA, hV, hX0, hX1, hR, hKF, hKB⟩
          | 1, _ =>
            have u1 : b1 = false := by simpa using hun
            have n7 : b7 = false := by
              cases hb7 : b7
              · rfl
              · exact absurd ((k5 (k6 (k7 hb7).2)).1) (by rw [u1]; simp)
            have hbl7 := hA n7
            have n8 : b8 = false := by
              cases hb8 : b8
              · rfl
              · rw [k8 hb8] at n7; cases n7
            have Z := Lib.hid (X7.out.below hbl7)
            (((try clear Zc1 Zc2 Zc3 Zc4 Zc5 Zc6); obtain ⟨Zc1, Zc2, Zc3, Zc4, Zc5, Zc6⟩ := Box.three (Hid.out Z)))
            refine wpOpIn_step rfl (fun Kk hK => ?_)
            go_simp
            exact hK _ _ ⟨b0, true, b2, b3, b4, b5, b6, b7, b8, _, _, _, _, _, _, _, _, rfl, rfl, h0, fun _ => rfl, h2, h3, h4, h5, h6, k4, fun h => ⟨rfl, (k5 h).2⟩, k6, k7, k8, hA, hV, hX0, hX1, hR, hKF, hKB⟩
          | 2, _ =>
            have u2 : b2 = false := by simpa using hun
            have n7 : b7 = false := by
              cases hb7 : b7
              · rfl
              · exact absurd ((k4 (k5 (k6 (k7 hb7).2)).2).1) (by rw [u2]; simp)
            have hbl7 := hA n7
            have n8 : b8 = false := by
              cases hb8 : b8
              · rfl
              · rw [k8 hb8] at n7; cases n7
            have Z := Lib.hid (X8.out.below hbl7)
            (((try clear Zc1 Zc2 Zc3 Zc4 Zc5 Zc6); obtain ⟨Zc1, Zc2, Zc3, Zc4, Zc5, Zc6⟩ := Box.three (Hid.out Z)))
            refine wpOpIn_step rfl (fun Kk hK => ?_)
            go_simp
            exact hK _ _ ⟨b0, b1, true, b3, b4, b5, b6, b7, b8, _, _, _, _, _, _, _, _, rfl, rfl, h0, h1, fun _ => rfl, h3, h4, h5, h6, fun h => ⟨rfl, (k4 h).2⟩, k5, k6, k7, k8, hA, hV, hX0, hX1, hR, hKF, hKB⟩
          | 3, _ =>
            have u3 : b3 = false := by simpa using hun
            have n7 : b7 = false := by
              cases hb7 : b7
              · rfl
              · exact absurd ((k4 (k5 (k6 (k7 hb7).2)).2).2) (by rw [u3]; simp)
            have hbl7 := hA n7
            have n8 : b8 = false := by
              cases hb8 : b8
              · rfl
              · rw [k8 hb8] at n7; cases n7
            have Z := Lib.hid hR
            (((try clear Zc1 Zc2 Zc3 Zc4 Zc5 Zc6); obtain ⟨Zc1, Zc2, Zc3, Zc4, Zc5, Zc6⟩ := Box.three (Hid.out Z)))
            refine wpOpIn_step rfl (fun Kk hK => ?_)
            go_simp
            exact hK _ _ ⟨b0, b1, b2, true, b4, b5, b6, b7, b8, _, _, _, _, _, _, _, _, rfl, rfl, h0, h1, h2, fun _ => rfl, h4, h5, h6, fun h => ⟨(k4 h).1, rfl⟩, k5, k6, k7, k8, hA, hV, hX0, hX1, hR, hKF, hKB⟩
          | 4, _ =>
            have u4 : b4 = false := by simpa using hun
            have n7 : b7 = false := by
              cases hb7 : b7
              · rfl
              · exact absurd ((k5 (k6 (k7 hb7).2)).2) (by rw [u4]; simp)
            simp only [List.getElem?_toArray, List.getElem?_cons_zero, List.getElem?_cons_succ, Option.some.injEq] at ho
            subst ho
            simp [Region.binds] at hed
            have e26 := h2 (by simp [hed])
            have e27 := h3 (by simp [hed])
            subst e26 e27
            have hbl7 := hA n7
            have n5 : ¬ b5 = true := fun h => by have := (k5 h).2; rw [u4] at this; cases this
            have n6 : ¬ b6 = true := fun h => n5 (k6 h)
            have hgs := hbl7.size
            have HY7 : RawAt B w' (.agg #[.bool (raw ss x.1).neg, .slice A1' (raw ss x.1).xs.length d1', .slice A2' (raw ss x.1).ys.length d2']) (raw ss x.1) := HB.out.below hbl7
            have HQ7 : RawAt B w' (.agg #[.bool r.neg, .slice D r.xs.length d, .slice D' r.ys.length d']) r := RQ.out.below hbl7
            have HT7 := T0.out.below hbl7
            have n8 : b8 = false := by
              cases hb8 : b8
              · rfl
              · rw [k8 hb8] at n7; cases n7
            refine wpOpIn_step rfl (fun Kk hK => ?_)
            go_simp
            refine ⟨trivial, ?_⟩
            refine (CallsIn.inRound l (callsIn_wide.2 (rmul_calls _ _ _ (raw ss x.1) r K (B := B) HY7 HQ7 HT7 HKB.out HKR.out (by omega) hK1 (by omega)))).mono ?_
            rintro e w9 ⟨v9, b9, rfl, hO9, hF9, hB9⟩
            exact hK _ _ ⟨b0, b1, b2, b3, true, b5, b6, b7, b8, _, _, _, _, _, _, _, _, rfl, rfl, h0, h1, h2, h3, fun _ => ⟨b9, hO9⟩, fun h => absurd h n5, fun h => absurd h n6, fun _ => by simp [hed], fun h => absurd h n5, k6, k7, k8, fun _ => Below.on hbl7 hB9, fun h => (by rw [n7] at h; cases h), fun _ => (hX0 n8).below hB9, fun h => (by rw [n8] at h; cases h), hR.below hB9, hKF.trans (keeps_below hB9), hKB.trans (KeepsB.of hB9 (by omega))⟩
          | 5, _ =>
            have u5 : b5 = false := by simpa using hun
            have n7 : b7 = false := by
              cases hb7 : b7
              · rfl
              · exact absurd (k6 (k7 hb7).2) (by rw [u5]; simp)
            simp only [List.getElem?_toArray, List.getElem?_cons_zero, List.getElem?_cons_succ, Option.some.injEq] at ho
            subst ho
            simp [Region.binds] at hed
            have e25 := h1 (by simp [hed])
            obtain ⟨b9, hO9⟩ := h4 (by simp [hed])
            subst e25
            have hbl7 := hA n7
            have n6 : ¬ b6 = true := fun h => by have := k6 h; rw [u5] at this; cases this
            have hgs := hbl7.size
            have HX7 : RawAt B w' (.agg #[.bool (raw rs x.1).neg, .slice A1 (raw rs x.1).xs.length d1, .slice A2 (raw rs x.1).ys.length d2]) (raw rs x.1) := HA.out.below hbl7
            have HM7 := hO9.reads B
            have HT7 := T0.out.below hbl7
            have n8 : b8 = false := by
              cases hb8 : b8
              · rfl
              · rw [k8 hb8] at n7; cases n7
            refine wpOpIn_step rfl (fun Kk hK => ?_)
            go_simp
            refine ⟨trivial, ?_⟩
            refine (CallsIn.inRound l (callsIn_wide.2 (radd_calls _ _ _ (raw rs x.1) (rawOf ((raw ss x.1).q * r.q)) (2 * K) (B := B) HX7 HM7 HT7 HKA.out HFP.out hKs (by omega) (by omega)))).mono ?_
            rw [rawOf_q]
            rintro e w9 ⟨v9, b9', rfl, hO9', hF9, hB9⟩
            exact hK _ _ ⟨b0, b1, b2, b3, b4, true, b6, b7, b8, _, _, _, _, _, _, _, _, rfl, rfl, (by first | exact h0 | exact fun _ => rfl), (by first | exact h1 | exact fun _ => rfl), (by first | exact h2 | exact fun _ => rfl), (by first | exact h3 | exact fun _ => rfl), fun _ => ⟨b9, hO9.below hB9⟩, fun _ => ⟨b9', hO9', hF9.low hgs⟩, fun h => absurd h n6, k4, fun _ => by simp [hed], fun h => absurd h n6, k7, k8, fun _ => Below.on hbl7 hB9, fun h => (by rw [n7] at h; cases h), fun _ => (hX0 n8).below hB9, fun h => (by rw [n8] at h; cases h), hR.below hB9, hKF.trans (keeps_below hB9), hKB.trans (KeepsB.of hB9 (by omega))⟩
          | 6, _ =>
            have u6 : b6 = false := by simpa using hun
            have n7 : b7 = false := by
              cases hb7 : b7
              · rfl
              · exact absurd ((k7 hb7).2) (by rw [u6]; simp)
            simp only [List.getElem?_toArray, List.getElem?_cons_zero, List.getElem?_cons_succ, Option.some.injEq] at ho
            subst ho
            simp [Region.binds] at hed
            obtain ⟨b9, hO9, hF9⟩ := h5 (by simp [hed])
            obtain ⟨P1, p1, P2, p2, rfl, -, -, -, -⟩ := id (hO9.reads B)
            have hbl7 := hA n7
            have hgs := hbl7.size
            have n8 : b8 = false := by
              cases hb8 : b8
              · rfl
              · rw [k8 hb8] at n7; cases n7
            have hO9' := Lib.hid hO9
            refine wpOpIn_step rfl (fun Kk hK => ?_)
            go_simp
            have hg : Below w'.heap.size w' (w'.alloc (.cells #[.bool (rawOf ((raw rs x.1).q + (raw ss x.1).q * r.q)).neg, .slice P1 (rawOf ((raw rs x.1).q + (raw ss x.1).q * r.q)).xs.length p1, .slice P2 (rawOf ((raw rs x.1).q + (raw ss x.1).q * r.q)).ys.length p2] 36)) := by ((repeat (first | assumption | exact Below.refl _ _ | refine Below.drew ?_ | refine below_drewN ?_ _ | refine Below.alloc' ?_ _ | refine Below.setCell ?_ (by first | omega | (dsimp only; omega) | (simp; done) | (simp; omega)) _ | refine Below.alloc ?_ (by first | assumption | exact Nat.le_refl _ | omega | (simp; done) | (simp; omega)) _)))
            exact hK _ _ ⟨b0, b1, b2, b3, b4, b5, true, b7, b8, _, _, _, _, _, _, _, _, rfl, rfl, (by first | exact h0 | exact fun _ => rfl), (by first | exact h1 | exact fun _ => rfl), (by first | exact h2 | exact fun _ => rfl), (by first | exact h3 | exact fun _ => rfl), fun h => (by obtain ⟨z, hz⟩ := h4 h; exact ⟨z, hz.below hg⟩), fun _ => ⟨b9, hO9'.out.below hg, hF9.up hg.size⟩, fun _ _ => ⟨w'.heap.size, _, _, _, rfl, rfl, Box.new _ _ _, rfl⟩, k4, k5, fun _ => by simp [hed], fun h => (by rw [n7] at h; cases h), k8, fun _ => Below.on hbl7 hg, fun h => (by rw [n7] at h; cases h), fun _ => (hX0 n8).below hg, fun h => (by rw [n8] at h; cases h), hR.below hg, hKF.trans (keeps_below hg), hKB.trans (KeepsB.of hg (by omega))⟩
          | 7, _ =>
            have u7 : b7 = false := by simpa using hun
            have n7 : b7 = false := by
              cases hb7 : b7
              · rfl
              · exact absurd (hb7) (by rw [u7]; simp)
            simp only [List.getElem?_toArray, List.getElem?_cons_zero, List.getElem?_cons_succ, Option.some.injEq] at ho
            subst ho
            simp [Region.binds] at hed
            have e24 := h0 (by simp [hed])
            subst e24
            have hb6 : b6 = true := by simp [hed]
            obtain ⟨g30, p1, p2, p3, rfl, rfl, hbx30, h1c⟩ := h6 hb6 n7
            obtain ⟨b9, hO9, hF9⟩ := h5 (k6 hb6)
            have hbl7 := hA n7
            have hgs := hbl7.size
            have n8 : b8 = false := by
              cases hb8 : b8
              · rfl
              · rw [k8 hb8] at n7; cases n7
            obtain ⟨ts, o1, o2, o3⟩ := HV.out.below hbl7
            have o3' : Fresh W0.heap.size W bs := by obtain ⟨_, _, _, o3⟩ := HV.out; exact o3
            have hpl : pre.length < rs.length := hlt
            have hln := addQ_length rs ss r.q pre
            refine wpOpIn_step rfl (fun Kk hK => ?_)
            refine stepIn_append rfl _ _ 23 rfl W0.heap.size 36 i0 (.agg #[.bool false, .slice none 0 0, .slice none 0 0]) 3 56 Tryz.underlying23 hi0 hz0 hz1 hz2 rfl (by decide) s24 _ (flat3 ts) rfl o1 ⟨g30, 0, none⟩ 1 1 [p1, p2, p3] rfl rfl (three_news hbx30) (List.all_eq_true.1 h1c) (by simp only [maxLen]; omega) (by omega) (by omega) ?_
            intro v' w2 hown' hgrow
            have hrt : ∀ k, s24.ownBlock = some k → W0.heap.size ≤ k := fun k hk => (row_typed o1 k hk).1
            have hrc : ∀ g, s24.ownBlock = some g → ∃ cur t, w'.heap[g]? = some (.cells cur t (0, 0)) ∧ t ≠ 62 := fun g hg => by
              obtain ⟨_, cur, hc⟩ := row_typed o1 g hg
              exact ⟨cur, _, hc, by decide⟩
            obtain ⟨gn, cn, rfl⟩ := ownsRow_succ hown'
            have hV2 : OwnV W0.heap.size w2 (.slice (some ⟨gn, 0, none⟩) ((addQ rs ss r.q pre).length + 1) cn) (addQ rs ss r.q (pre ++ [x])) (bs ++ b9) := by
              rw [addQ_snoc]
              refine ⟨ts ++ [(p1, p2, p3)], by rw [flat3_snoc, List.length_append]; exact hown', (o2.map fun v q b h => h.grown hgrow hrc).snoc (hO9.grown hgrow hrc), ?_⟩
              exact (o3'.join hF9 hbl7.size (by omega)).up hgrow.size
            have hbox : ∀ (g : Nat) (t : TypeId) (cs : Array Value), g < W0.heap.size → Box w' g t cs → Box w2 g t cs := fun g t cs hg h => (hgrow.block g h.lt (fun e => by have := hrt g e.symm; omega)).trans h
            have hkf : KeepsFrom W0.heap.size w' w2 := (KeepsOthers.of_grownBy hgrow (fun j o ej hj => by obtain ⟨cur, t, hc, _⟩ := hrc j ej; rw [hc] at hj; cases hj; rfl)).from _
            have hkb : KeepsB w.heap.size (w5.heap.size + 1) w' w2 := ⟨(Below.refl _ _).grown hgrow (by omega) (fun k hk => by have := hrt k hk; omega), fun v hv => hgrow.cell hv (fun e => by have := hrt _ e.symm; simp at this; omega)⟩
            exact hK _ _ ⟨b0, b1, b2, b3, b4, b5, b6, true, b8, _, _, _, _, _, _, _, _, rfl, rfl, fun _ => rfl, h1, h2, h3, fun h => (by obtain ⟨z, hz⟩ := h4 h; exact ⟨z, hz.grown hgrow hrc⟩), fun _ => ⟨b9, hO9.grown hgrow hrc, hF9.up hgrow.size⟩, fun _ h => (by cases h), k4, k5, k6, fun _ => by simp [hed], fun _ => rfl, fun h => (by cases h), fun _ => ⟨⟨_, hV2⟩, _, _, _, rfl⟩, fun _ => hbox _ _ _ (by omega) (hX0 n8), fun h => (by rw [n8] at h; cases h), hbox _ _ _ (by omega) hR, hKF.trans hkf, hKB.trans hkb⟩
          | 8, _ =>
            simp only [List.getElem?_toArray, List.getElem?_cons_zero, List.getElem?_cons_succ, Option.some.injEq] at ho
            subst ho
            simp [Region.binds] at hed
            have u8 : b8 = false := by simpa using hun
            have hb7 : b7 = true := by simp [hed]
            obtain ⟨⟨bs', hV⟩, gn, nn, cn, rfl⟩ := hV hb7
            have Z := Lib.hid (hX0 u8)
            (((try clear Zc1 Zc2); obtain ⟨Zc1, Zc2⟩ := Box.one (Hid.out Z)))
            have HV' := Lib.hid hV
            have HR' := Lib.hid hR
            refine wpOpIn_step rfl (fun Kk hK => ?_)
            go_simp
            exact hK _ _ ⟨b0, b1, b2, b3, b4, b5, b6, b7, true, _, _, _, _, _, _, _, _, rfl, rfl, (by first | exact h0 | exact fun _ => rfl), (by first | exact h1 | exact fun _ => rfl), (by first | exact h2 | exact fun _ => rfl), (by first | exact h3 | exact fun _ => rfl), fun h => (by obtain ⟨z, hz⟩ := h4 h; exact ⟨z, hz.set Z.out (by decide) 0 _⟩), fun h => (by obtain ⟨z, hz, hf⟩ := h5 h; exact ⟨z, hz.set Z.out (by decide) 0 _, hf.up (by simp)⟩), fun _ h => (by rw [hb7] at h; cases h), k4, k5, k6, k7, fun _ => hb7, fun h => (by rw [hb7] at h; cases h), fun _ => ⟨⟨bs', HV'.out.set Z.out (by decide) (by decide) 0 _⟩, _, _, _, rfl⟩, fun h => (by cases h), fun _ => Z.out.set 0 _, HR'.out.far (p := ⟨w.heap.size + 1, 0, none⟩) (by simp) _, keeps_set1 hKF _ _, hKB.set1 (by omega) (by omega) _⟩
        · rintro listed a w' ⟨b0, b1, b2, b3, b4, b5, b6, b7, b8, s24, s25, s26, s27, s28, s29, s30, s31, rfl, rfl, h0, h1, h2, h3, h4, h5, h6, k4, k5, k6, k7, k8, hA, hV, hX0, hX1, hR, hKF, hKB⟩ hall
          have hb7 : b7 = true := by simpa using hall 7 (by decide)
          have hb8 : b8 = true := by simpa using hall 8 (by decide)
          obtain ⟨⟨bs', hV⟩, -⟩ := hV hb7
          have F1 := Lib.hid hV
          have F2 := Lib.hid (hX1 hb8)
          have F3 := Lib.hid hR
          have F4 := Lib.hid hKF
          have F5 := Lib.hid hKB
          clear h0 h1 h2 h3 h4 h5 h6 k4 k5 k6 k7 k8 hA hV hX0 hX1 hR hKF hKB
          gi_wp2_with (fail)
          exact ⟨F4.out, F5.out, ⟨⟨_, bs', F2.out, F1.out⟩, F3.out⟩, hbl.trans F5.out.1, Nat.le_trans hs0 F4.out.size⟩
      case done =>
        rintro D zs W hD hxs ⟨⟨⟨vo, bs, hbo, hov⟩, hbx⟩, hbl, hs0⟩ hK
        have X6 := Lib.hid hbo
        have HV := Lib.hid hov
        have HX := Lib.hid hxs
        clear hbo hov hxs hbx
        (((try clear X6c1 X6c2); obtain ⟨X6c1, X6c2⟩ := Box.one (Hid.out X6)))
        rcases HV.out.len63 with rfl | ⟨gz, cz, rfl⟩
        · gi_wp2
          have hK' := kept_set1 hK rfl (w.heap.size + 1) (.slice none 0 0)
          have z1 := X6.out.set 0 (.slice none 0 0)
          have z2 := HV.out.set X6.out (by decide) (by decide) 0 (.slice none 0 0)
          refine ⟨by simp, .inl ⟨_, _, rfl, run_takeDeferred hK', ?_⟩⟩
          have hgb := grownBy_putObj' (W.setCell ⟨w.heap.size + 1, 0, none⟩ (.slice none 0 0)) D (.deferred none)
          refine ⟨_, result_var2 rfl (g := w.heap.size + 1) rfl rfl (load_list _ _ _ (z1.kept hgb (fun r e => by cases e; exact ⟨_, hK', rfl⟩))), fun h => absurd ⟨HL.out, HF.out.1, HF.out.2, hok⟩ h, fun _ _ _ _ => ⟨_, bs, rfl, ?_⟩, (hbl.setCell (p := ⟨w.heap.size + 1, 0, none⟩) (by simp) _).trans (belowK_b (w := W0) hBW.size _ D _ _ hD hK' rfl rfl)⟩
          rw [← HX.out]
          exact (z2.kept hgb (fun r e => by cases e; exact ⟨_, hK', rfl⟩)).low hBW.size
        · gi_wp2
          have hK' := kept_set1 hK rfl (w.heap.size + 1) (.slice (some ⟨gz, 0, none⟩) (addQ rs ss r.q zs).length cz)
          have z1 := X6.out.set 0 (.slice (some ⟨gz, 0, none⟩) (addQ rs ss r.q zs).length cz)
          have z2 := HV.out.set X6.out (by decide) (by decide) 0 (.slice (some ⟨gz, 0, none⟩) (addQ rs ss r.q zs).length cz)
          refine ⟨by simp, .inl ⟨_, _, rfl, run_takeDeferred hK', ?_⟩⟩
          have hgb := grownBy_putObj' (W.setCell ⟨w.heap.size + 1, 0, none⟩ (.slice (some ⟨gz, 0, none⟩) (addQ rs ss r.q zs).length cz)) D (.deferred none)
          refine ⟨_, result_var2 rfl (g := w.heap.size + 1) rfl rfl (load_list _ _ _ (z1.kept hgb (fun r e => by cases e; exact ⟨_, hK', rfl⟩))), fun h => absurd ⟨HL.out, HF.out.1, HF.out.2, hok⟩ h, fun _ _ _ _ => ⟨_, bs, rfl, ?_⟩, (hbl.setCell (p := ⟨w.heap.size + 1, 0, none⟩) (by simp) _).trans (belowK_b (w := W0) hBW.size _ D _ _ hD hK' rfl rfl)⟩
          rw [← HX.out]
          exact (z2.kept hgb (fun r e => by cases e; exact ⟨_, hK', rfl⟩)).low hBW.size
      case stop =>
        rintro D cd pre W _ _ h _
        exact h.elim
  · have HF := Lib.hid hf
    have hff : (decide (rs.length = ss.length) && allOk rs && allOk ss) = false := by simpa using hf
    clear hf
    gi_wp2_with (fail)
    refine ⟨by first | trivial | (intros; trivial), ?_⟩
    gi_wp2_with (fail)
    refine ⟨.tuple #[.slice none 0 0, .int .i64 1], result_var2 rfl (g := w.heap.size + 1) rfl rfl (load_list _ _ _ (B1.out.set 0 (.slice none 0 0))), fun _ => rfl, fun h1 h2 h3 _ => absurd (by rw [h2, h3, decide_eq_true h1]; rfl) HF.out, by ((repeat (first | assumption | exact Below.refl _ _ | refine Below.drew ?_ | refine below_drewN ?_ _ | refine Below.alloc' ?_ _ | refine Below.setCell ?_ (by first | omega | (dsimp only; omega) | (simp; done) | (simp; omega)) _ | refine Below.alloc ?_ (by first | assumption | exact Nat.le_refl _ | omega | (simp; done) | (simp; omega)) _)))⟩

end Go.Proofs.YthofbikhomnjpaaGreatDoor
