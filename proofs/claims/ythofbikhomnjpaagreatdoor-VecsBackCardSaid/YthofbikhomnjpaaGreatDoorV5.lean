import Derived.Test.YthofbikhomnjpaaGreatDoorV4
namespace Go.Proofs.YthofbikhomnjpaaGreatDoor
open Go.RowKit Go.Shelf
set_option linter.unusedVariables false
set_option linter.unusedSimpArgs false
attribute [local go_sem] Oper.semAt_some

theorem load_bool (w : World) (g : Nat) (v : Value) (hb : Box w g 4 #[v]) : (loadVar 4 ⟨g, 0, none⟩).run Tryz.prog w = .ok v w := by
  have h := hb.cell 0
  have h' : w.cell? ⟨g, 0, none⟩ = some v := h
  simp [loadVar, isAgg, run_underlying Tryz.underlying4, go_sem, h']
theorem cmpZ_zero (a b : Rat) : cmpZ (a.num * b.den) (b.num * a.den) = 0 ↔ a = b := by
  rw [Rat.eq_iff_mul_eq_mul]
  unfold cmpZ
  split
  · constructor
    · intro h; cases h
    · intro h; omega
  · split
    · rename_i h; exact ⟨fun _ => h, fun _ => rfl⟩
    · rename_i h; exact ⟨fun h1 => (by cases h1), fun h1 => absurd h1 h⟩
/-- At some places both are the same. -/
def sameAt {m : Nat} (rs ss : List Raw) (pre : List (Fin m)) : Prop := ∀ i, i ∈ pre → (raw rs i.1).q = (raw ss i.1).q
def partsAt {m : Nat} (rs ss : List Raw) (pre : List (Fin m)) : Prop := ∃ i, i ∈ pre ∧ (raw rs i.1).q ≠ (raw ss i.1).q
theorem KeepsB.set1 {n₀ B2 : Nat} {X Y : World} (h : KeepsB n₀ B2 X Y) {g : Nat} (hg : n₀ ≤ g) (hne : B2 ≠ g) (a : Value) : KeepsB n₀ B2 X (Y.setCell ⟨g, 0, none⟩ a) :=
  ⟨h.1.setCell (p := ⟨g, 0, none⟩) hg a, fun v hv => cell_far (h.2 v hv) hne⟩
theorem keeps_set1 {B : Nat} {W w : World} (h : KeepsFrom B W w) (g : Nat) (a : Value) : KeepsFrom B W (w.setCell ⟨g, 0, none⟩ a) := h.trans ((KeepsOthers.setCell _ _ _).from _)
theorem kept_set1 {w : World} {D : Nat} {o : Obj} (h : w.heap[D]? = some o) (hc : o.isCells = false) (g : Nat) (a : Value) : (w.setCell ⟨g, 0, none⟩ a).heap[D]? = some o := (KeepsOthers.setCell _ _ _).same D o h hc

set_option maxRecDepth 100000 in
set_option maxHeartbeats 4000000 in
theorem same_calls (w : World) (A A' : Option Addr) (c c' : Nat) (rs ss : List Raw) (K : Nat) {B : Nat} (h : RatsAt B w A rs) (h' : RatsAt B w A' ss) (hc : rs.length ≤ c) (hc' : ss.length ≤ c') (hT : Tab w) (hBw : B ≤ w.heap.size) (hK : allLe K rs) (hK' : allLe K ss) (hK1 : 1 ≤ K) (hKs : K ≤ 1099511627776) :
    Calls Tryz.prog 30 #[.slice A rs.length c, .slice A' ss.length c'] w fun e w' => ∃ t : Bool, e = .returned (.bool t) ∧ (t = true ↔ rs.length = ss.length ∧ allOk rs = true ∧ allOk ss = true ∧ ∀ i, i < rs.length → (raw rs i).q = (raw ss i).q) ∧ Below w.heap.size w w' := by
  have H := Lib.hid h
  have H' := Lib.hid h'
  have HT := Lib.hid hT
  have HK := Lib.hid hK
  have HK' := Lib.hid hK'
  clear h h' hT hK hK'
  refine (callsIn_wide (n := 9)).1 ?_
  refine callsIn_of_wp_marks Tryz.func30 rfl trivial ?_ rfl
  simp only [Tryz.ntmps30, List.size_toArray, List.length_cons, List.length_nil, Nat.reduceAdd, Nat.reduceSub, Array.replicate_succ, Array.replicate_zero, List.push_toArray, List.append_toArray, List.nil_append, List.cons_append]
  gi_wp2_with (fail)
  obtain ⟨w3, h3, hB, b0⟩ := boxes1 w 4 #[.bool false]
  rw [← h3]
  have B0 := Lib.hid b0
  clear h3 b0
  have hs3 := hB.size
  refine ⟨trivial, ?_⟩
  refine (callsIn_wide.2 (fit_calls _ _ _ _ _ rs ss (H.out.below hB) (H'.out.below hB) hc hc' (HT.out.below hB) (fun i hi => ⟨Nat.le_trans (HK.out i hi).1 (by omega), Nat.le_trans (HK.out i hi).2 (by omega)⟩) (fun i hi => ⟨Nat.le_trans (HK'.out i hi).1 (by omega), Nat.le_trans (HK'.out i hi).2 (by omega)⟩))).mono ?_
  rintro e w4 ⟨rfl, hB4⟩
  ((replace B0 := Lib.hid (Box.below (Box.below (Hid.out B0) (by ((repeat (first | assumption | exact Below.refl _ _ | refine Below.drew ?_ | refine below_drewN ?_ _ | refine Below.alloc' ?_ _ | refine Below.setCell ?_ (by first | omega | (dsimp only; omega) | (simp; done) | (simp; omega)) _ | refine Below.alloc ?_ (by first | assumption | exact Nat.le_refl _ | omega | (simp; done) | (simp; omega)) _))))) hB4); (try clear B0c1 B0c2); obtain ⟨B0c1, B0c2⟩ := Box.one (Hid.out B0); have := Box.lt (Hid.out B0)))
  ((replace hB := Below.on (Below.on hB (by ((repeat (first | assumption | exact Below.refl _ _ | refine Below.drew ?_ | refine below_drewN ?_ _ | refine Below.alloc' ?_ _ | refine Below.setCell ?_ (by first | omega | (dsimp only; omega) | (simp; done) | (simp; omega)) _ | refine Below.alloc ?_ (by first | assumption | exact Nat.le_refl _ | omega | (simp; done) | (simp; omega)) _))))) hB4; have := Below.size hB))
  by_cases hf : (decide (rs.length = ss.length) && allOk rs && allOk ss) = true
  · have hlen : rs.length = ss.length := by simp only [Bool.and_eq_true, decide_eq_true_eq] at hf; exact hf.1.1
    have HL := Lib.hid hlen
    have HF : Hid (allOk rs = true ∧ allOk ss = true) := by simp only [Bool.and_eq_true, decide_eq_true_eq] at hf; exact ⟨hf.1.2, hf.2⟩
    clear hlen
    gi_wp2_with (fail)
    refine ⟨trivial, ?_⟩
    refine (callsIn_wide.2 (both_calls _ _ _ _ _ _ _)).mono ?_
    rintro e w6 ⟨rfl, hw6⟩
    gi_wp2_with (fail)
    obtain ⟨W0, hW0⟩ : ∃ W0, W0 = (w4.alloc (.cells #[.slice A rs.length c] 23)).alloc (.cells #[.slice A' ss.length c'] 23) := ⟨_, rfl⟩
    rw [← hW0]
    have hg0 : Below w4.heap.size w4 W0 := by rw [hW0]; ((repeat (first | assumption | exact Below.refl _ _ | refine Below.drew ?_ | refine below_drewN ?_ _ | refine Below.alloc' ?_ _ | refine Below.setCell ?_ (by first | omega | (dsimp only; omega) | (simp; done) | (simp; omega)) _ | refine Below.alloc ?_ (by first | assumption | exact Nat.le_refl _ | omega | (simp; done) | (simp; omega)) _)))
    have y1 : W0.cell? ⟨w4.heap.size, 0, none⟩ = some (.slice A rs.length c) := by rw [hW0]; exact ((Box.new _ _ _).alloc _).cell 0
    have y2 : W0.cell? ⟨w4.heap.size + 1, 0, none⟩ = some (.slice A' ss.length c') := by rw [hW0]; exact (Box.new' _ _ _ (by simp)).cell 0
    have hsz0 : W0.heap.size = w4.heap.size + 1 + 1 := by rw [hW0]; simp
    have hBW := Below.on hB hg0
    have BR := Lib.hid (B0.out.below hg0)
    have Y1 := Lib.hid y1
    have Y2 := Lib.hid y2
    clear hW0 hw6 y1 y2
    have hs5 : w.heap.size < w4.heap.size := B0.out.lt
    clear B0c1 B0c2
    refine wpIn_rangeFunc_ownH rfl (by omega) (gf := 94) (lb := #[.pointer (some ⟨w4.heap.size, 0, none⟩), .pointer (some ⟨w4.heap.size + 1, 0, none⟩)]) rfl trivial (enters_of Tryz.func94 (by kernel_rfl) rfl)
      (both_stops 8 (by omega) (w4.heap.size) (w4.heap.size + 1) A A' c c' rs ss HL.out w W0 Y1.out Y2.out H.out H'.out hBW) KeepsB.trans (keepsB_put hBW.size (by omega)) (Below.refl _ _) (fun _ => rfl)
      (fun pre W => (Box W w.heap.size 4 #[.bool false] ∧ sameAt rs ss pre) ∧ (Below w.heap.size w W ∧ W0.heap.size ≤ W.heap.size))
      (fun cd pre W => (Box W w.heap.size 4 #[.bool false] ∧ (cd = .ret ∧ partsAt rs ss pre)) ∧ (Below w.heap.size w W ∧ W0.heap.size ≤ W.heap.size))
      (OwnFrom.and (fun s X Y row h hg hr => ⟨h.1.kept hg (fun r e => (hr r e).2), h.2⟩) (OwnFrom.and (ownFrom_below (Nat.le_refl _) hBW.size) (fun s X Y row h hg hr => Nat.le_trans h hg.size)))
      (fun cd => OwnFrom.and (fun s X Y row h hg hr => ⟨h.1.kept hg (fun r e => (hr r e).2), h.2⟩) (OwnFrom.and (ownFrom_below (Nat.le_refl _) hBW.size) (fun s X Y row h hg hr => Nat.le_trans h hg.size)))
      ⟨⟨BR.out, fun i hi => by cases hi⟩, hBW, Nat.le_refl _⟩
      (fun x a' W => ∃ B7 B8 a b d e f g, W0.heap.size ≤ B7 ∧ W0.heap.size ≤ B8 ∧ Box W B7 36 #[a, b, d] ∧ Box W B8 36 #[e, f, g] ∧ ratv w A x.1 = .agg #[a, b, d] ∧ ratv w A' x.1 = .agg #[e, f, g] ∧
        a' = { tmps := #[.slice A rs.length c, .slice A' ss.length c', undef, undef, .pointer (some ⟨w.heap.size, 0, none⟩), .pointer (some ⟨B7, 0, none⟩), .pointer (some ⟨B8, 0, none⟩), .slice A rs.length c, .slice A' ss.length c', .bool true, .bool false, .slice A rs.length c, .slice A' ss.length c', .func (.func 94) #[] #[.pointer (some ⟨w4.heap.size, 0, none⟩), .pointer (some ⟨w4.heap.size + 1, 0, none⟩)], ratv w A x.1, ratv w A' x.1, undef, undef, undef, undef], defers := [] })
      (fun x a' _ X Y row hs hg hr => by obtain ⟨B7, B8, a, b, d, e, f, g, h1, h2, h3, h4, h5⟩ := hs; exact ⟨B7, B8, a, b, d, e, f, g, h1, h2, h3.kept hg (fun r e => (hr r e).2), h4.kept hg (fun r e => (hr r e).2), h5⟩)
      ?assign ?body ?done ?stop
    case assign =>
      rintro l pre x W K' ⟨⟨hh, hsm⟩, hbl, hs0⟩ hK
      obtain ⟨b, o, A1, d1, A2, d2, -, -, -, -, k4, -⟩ := H.out.val x.2 (Below.refl _ _)
      obtain ⟨b', o', A1', d1', A2', d2', -, -, -, -, k4', -⟩ := H'.out.val (show x.1 < ss.length by have := HL.out; omega) (Below.refl _ _)
      have HK := Lib.hid hK
      have HH := Lib.hid hh
      have HM := Lib.hid hsm
      have K4 := Lib.hid k4
      have K4' := Lib.hid k4'
      clear hK hh hsm
      dsimp only
      rw [k4, k4']
      clear k4 k4'
      gi_wp2
      have hgr : Below W.heap.size W ((W.alloc (.cells #[.bool (raw rs x.1).neg, .slice A1 (raw rs x.1).xs.length d1, .slice A2 (raw rs x.1).ys.length d2] 36)).alloc (.cells #[.bool (raw ss x.1).neg, .slice A1' (raw ss x.1).xs.length d1', .slice A2' (raw ss x.1).ys.length d2'] 36)) := by ((repeat (first | assumption | exact Below.refl _ _ | refine Below.drew ?_ | refine below_drewN ?_ _ | refine Below.alloc' ?_ _ | refine Below.setCell ?_ (by first | omega | (dsimp only; omega) | (simp; done) | (simp; omega)) _ | refine Below.alloc ?_ (by first | assumption | exact Nat.le_refl _ | omega | (simp; done) | (simp; omega)) _)))
      refine HK.out _ _ (keeps_below hgr) (KeepsB.of hgr hbl.size) ⟨⟨HH.out.below hgr, HM.out⟩, Below.on hbl hgr, Nat.le_trans hs0 hgr.size⟩ ⟨W.heap.size, W.heap.size + 1, _, _, _, _, _, _, by omega, by omega, (Box.new _ _ _).alloc _, Box.new1 _ _ _ _, K4.out, K4'.out, ?_⟩
      rw [K4.out, K4'.out]
    case body =>
      rintro l pre x a' W hl ⟨r, hr⟩ ⟨⟨hbx, hsm⟩, hbl, hs0⟩ ⟨B7, B8, a, b, d, e, f, g, hB7, hB8, hx7, hx8, hv7, hv8, rfl⟩ hlt
      obtain ⟨-, -, A1, d1, A2, d2, -, -, -, -, k4, ra⟩ := H.out.val x.2 hbl
      obtain ⟨-, -, A1', d1', A2', d2', -, -, -, -, k4', rb⟩ := H'.out.val (show x.1 < ss.length by have := HL.out; omega) hbl
      rw [k4] at hv7 ⊢
      rw [k4'] at hv8 ⊢
      simp only [Value.agg.injEq, Array.mk.injEq, List.cons.injEq, and_true] at hv7 hv8
      obtain ⟨rfl, rfl, rfl⟩ := hv7
      obtain ⟨rfl, rfl, rfl⟩ := hv8
      have HA := Lib.hid ra
      have HB := Lib.hid rb
      have X7 := Lib.hid hx7
      have X8 := Lib.hid hx8
      have XR := Lib.hid hbx
      have HM := Lib.hid hsm
      have T0 := Lib.hid (HT.out.below hbl)
      have HKA := Lib.hid (HK.out x.1 x.2)
      have HKB := Lib.hid (HK'.out x.1 (by have := HL.out; have := x.2; omega))
      clear ra rb hx7 hx8 hbx hsm k4 k4' hr hl
      (((try clear X7c1 X7c2 X7c3 X7c4 X7c5 X7c6); obtain ⟨X7c1, X7c2, X7c3, X7c4, X7c5, X7c6⟩ := Box.three (Hid.out X7)))
      (((try clear X8c1 X8c2 X8c3 X8c4 X8c5 X8c6); obtain ⟨X8c1, X8c2, X8c3, X8c4, X8c5, X8c6⟩ := Box.three (Hid.out X8)))
      have hsW := hbl.size
      have hb0 := Below.refl W.heap.size W
      have h1' : 1 ≤ 9 - 1 - 1 := by omega
      gi_wp2_with (fail)
      refine ⟨trivial, ?_⟩
      refine (CallsIn.inRound l (callsIn_wide.2 (rcmp_calls _ _ _ (raw rs x.1) (raw ss x.1) K (B := B) HA.out HB.out T0.out HKA.out HKB.out hKs hK1 (by omega)))).mono ?_
      rintro e w7 ⟨rfl, hB7⟩
      ((replace XR := Lib.hid (Box.below (Box.below (Hid.out XR) (by ((repeat (first | assumption | exact Below.refl _ _ | refine Below.drew ?_ | refine below_drewN ?_ _ | refine Below.alloc' ?_ _ | refine Below.setCell ?_ (by first | omega | (dsimp only; omega) | (simp; done) | (simp; omega)) _ | refine Below.alloc ?_ (by first | assumption | exact Nat.le_refl _ | omega | (simp; done) | (simp; omega)) _))))) hB7); (try clear XRc1 XRc2); obtain ⟨XRc1, XRc2⟩ := Box.one (Hid.out XR); have := Box.lt (Hid.out XR)))
      have hb1 := Below.on hbl hB7
      have hs7 := hB7.size
      by_cases hq : (raw rs x.1).q = (raw ss x.1).q
      · have hz : (cmpZ ((raw rs x.1).q.num * (raw ss x.1).q.den) ((raw ss x.1).q.num * (raw rs x.1).q.den) != 0) = false := by rw [(cmpZ_zero _ _).2 hq]; rfl
        have HQ := Lib.hid hq
        clear hq
        gi_wp2_with (fail)
        exact ⟨keeps_below hB7, KeepsB.of hB7 hsW, ⟨XR.out, fun i hi => by
          rcases List.mem_append.1 hi with hi | hi
          · exact HM.out i hi
          · rw [List.mem_singleton] at hi; rw [hi]; exact HQ.out⟩, hb1, by omega⟩
      · have hz : (cmpZ ((raw rs x.1).q.num * (raw ss x.1).q.den) ((raw ss x.1).q.num * (raw rs x.1).q.den) != 0) = true := by
          rw [bne_iff_ne]; exact fun h => hq ((cmpZ_zero _ _).1 h)
        have HQ := Lib.hid hq
        clear hq
        gi_wp2_with (fail)
        exact ⟨keeps_set1 (keeps_below hB7) _ _, ⟨XR.out.set 0 (.bool false), rfl, x, by simp, HQ.out⟩, hb1.setCell (p := ⟨w.heap.size, 0, none⟩) (Nat.le_refl _) _, by simp; omega⟩
    case done =>
      rintro D zs W hD hxs ⟨⟨hbx, hsm⟩, hbl, hs0⟩ hK
      have XR := Lib.hid hbx
      have HX := Lib.hid hxs
      have HM := Lib.hid hsm
      clear hbx hxs hsm
      (((try clear XRc1 XRc2); obtain ⟨XRc1, XRc2⟩ := Box.one (Hid.out XR)))
      gi_wp2
      have hK' := kept_set1 hK rfl w.heap.size (.bool true)
      have z1 := XR.out.set 0 (.bool true)
      refine ⟨by simp, .inl ⟨_, _, rfl, run_takeDeferred hK', ?_⟩⟩
      have hgb := grownBy_putObj' (W.setCell ⟨w.heap.size, 0, none⟩ (.bool true)) D (.deferred none)
      refine ⟨_, result_var rfl (g := w.heap.size) rfl (load_bool _ _ _ (z1.kept hgb (fun r e => by cases e; exact ⟨_, hK', rfl⟩))), true, rfl, ⟨fun _ => ⟨HL.out, HF.out.1, HF.out.2, fun i hi => ?_⟩, fun _ => rfl⟩, (hbl.setCell (p := ⟨w.heap.size, 0, none⟩) (Nat.le_refl _) _).trans (belowK_b (w := W0) hBW.size _ D _ _ hD hK' rfl rfl)⟩
      exact HM.out ⟨i, hi⟩ (by rw [HX.out]; exact List.mem_finRange _)
    case stop =>
      rintro D cd pre W hD hpre ⟨⟨hbx, rfl, hpt⟩, hbl, hs0⟩ hK
      have XR := Lib.hid hbx
      have HP := Lib.hid hpt
      clear hbx hpt
      gi_wp2
      refine ⟨by simp, .inl ⟨_, _, rfl, run_takeDeferred hK, ?_⟩⟩
      have hgb := grownBy_putObj' W D (.deferred none)
      refine ⟨_, result_var rfl (g := w.heap.size) rfl (load_bool _ _ _ (XR.out.kept hgb (fun r e => by cases e; exact ⟨_, hK, rfl⟩))), false, rfl, ⟨fun h => (by cases h), fun ⟨_, _, _, h⟩ => ?_⟩, hbl.trans (belowK_b (w := W0) hBW.size _ D _ _ hD hK rfl rfl)⟩
      obtain ⟨i, _, hne⟩ := HP.out
      exact absurd (h i.1 i.2) hne
  · have HF := Lib.hid hf
    have hff : (decide (rs.length = ss.length) && allOk rs && allOk ss) = false := by simpa using hf
    clear hf
    gi_wp2_with (fail)
    refine ⟨.bool false, result_var rfl (g := w.heap.size) rfl (load_bool _ _ _ (B0.out.set 0 (.bool false))), false, rfl, ⟨fun h => (by cases h), fun ⟨h1, h2, h3, _⟩ => absurd (by rw [h2, h3, decide_eq_true h1]; rfl) HF.out⟩, by ((repeat (first | assumption | exact Below.refl _ _ | refine Below.drew ?_ | refine below_drewN ?_ _ | refine Below.alloc' ?_ _ | refine Below.setCell ?_ (by first | omega | (dsimp only; omega) | (simp; done) | (simp; omega)) _ | refine Below.alloc ?_ (by first | assumption | exact Nat.le_refl _ | omega | (simp; done) | (simp; omega)) _)))⟩

end Go.Proofs.YthofbikhomnjpaaGreatDoor
