import Derived.Test.YthofbikhomnjpaaGreatDoorR4
namespace Go.Proofs.YthofbikhomnjpaaGreatDoor
open Go.RowKit
set_option linter.unusedVariables false
set_option linter.unusedSimpArgs false

set_option maxRecDepth 100000 in
set_option maxHeartbeats 4000000 in
theorem rsign_calls (w : World) (v : Value) (r : Raw) {B : Nat} (hx : RawAt B w v r) (hT : Tab w) (hsz : r.xs.length + r.ys.length ≤ 8796093022000) (hBw : B ≤ w.heap.size) :
    Calls Tryz.prog 29 #[v] w fun e w' => e = .returned (.int .i64 (sgn r.q.num)) ∧ Below w.heap.size w w' := by
  obtain ⟨A, c, A', c', rfl, -, -, -, -⟩ := id hx
  have HX := Lib.hid hx
  have HT := Lib.hid hT
  clear hx hT
  obtain ⟨q, hq⟩ : ∃ q, q = r.q := ⟨_, rfl⟩
  rw [← hq]
  have HQ := Lib.hid hq
  clear hq
  obtain ⟨w3, h3, hB, b0⟩ := boxes1 w 36 #[.bool r.neg, .slice A r.xs.length c, .slice A' r.ys.length c']
  have H3 := Lib.hid h3
  have B0 := Lib.hid b0
  have hs3 := hB.size
  clear h3 b0
  have hf : ∀ (a b c : Value) (w : World), (Instr.field 36 (.agg #[a, b, c]) 0).run Tryz.prog w = .ok (.agg #[a, b]) w := fun _ _ _ _ => by kernel_rfl
  go_enter Tryz.func29, Tryz.ntmps29
  go_wp2_with fail
  rw [← H3.out]
  (((try clear B0c1 B0c2 B0c3 B0c4 B0c5 B0c6); obtain ⟨B0c1, B0c2, B0c3, B0c4, B0c5, B0c6⟩ := Box.three (Hid.out B0)))
  refine (rof_calls _ _ r (B := B) (HX.out.below hB) (HT.out.below hB) hsz (by omega)).mono ?_
  rw [← HQ.out]
  rintro e w4 ⟨v4, rfl, hr4, hB4⟩
  obtain ⟨A4, c4, A4', c4', rfl, hi4, -, -⟩ := hr4.open
  have R4 := Lib.hid hi4
  clear hr4 hi4
  ((replace hB := Below.on (Below.on hB (by ((repeat (first | assumption | exact Below.refl _ _ | refine Below.drew ?_ | refine below_drewN ?_ _ | refine Below.alloc' ?_ _ | refine Below.setCell ?_ (by first | omega | (dsimp only; omega) | (simp; done) | (simp; omega)) _ | refine Below.alloc ?_ (by first | assumption | exact Nat.le_refl _ | omega | (simp; done) | (simp; omega)) _))))) hB4; have := Below.size hB))
  go_wp2_with fail
  refine (isign_calls _ _ _ R4.out (by omega)).mono ?_
  rintro e w5 ⟨rfl, hB5⟩
  ((replace hB := Below.on (Below.on hB (by ((repeat (first | assumption | exact Below.refl _ _ | refine Below.drew ?_ | refine below_drewN ?_ _ | refine Below.alloc' ?_ _ | refine Below.setCell ?_ (by first | omega | (dsimp only; omega) | (simp; done) | (simp; omega)) _ | refine Below.alloc ?_ (by first | assumption | exact Nat.le_refl _ | omega | (simp; done) | (simp; omega)) _))))) hB5; have := Below.size hB))
  go_wp2_with fail
  go_ret
  exact ⟨rfl, hB⟩

set_option maxRecDepth 100000 in
set_option maxHeartbeats 4000000 in
theorem rcmp_calls (w : World) (v1 v2 : Value) (r1 r2 : Raw) (K : Nat) {B : Nat} (hx : RawAt B w v1 r1) (hy : RawAt B w v2 r2) (hT : Tab w) (hk1 : r1.le K) (hk2 : r2.le K) (hK : K ≤ 1099511627776) (hK1 : 1 ≤ K) (hBw : B ≤ w.heap.size) :
    Calls Tryz.prog 13 #[v1, v2] w fun e w' => e = .returned (.int .i64 (cmpZ (r1.q.num * r2.q.den) (r2.q.num * r1.q.den))) ∧ Below w.heap.size w w' := by
  obtain ⟨A, c, A', c', rfl, -, -, -, -⟩ := id hx
  obtain ⟨D, d, D', d', rfl, -, -, -, -⟩ := id hy
  have HX := Lib.hid hx
  have HY := Lib.hid hy
  have HT := Lib.hid hT
  obtain ⟨x, hx'⟩ : ∃ x, x = r1.q.num * r2.q.den := ⟨_, rfl⟩
  obtain ⟨y, hy'⟩ : ∃ y, y = r2.q.num * r1.q.den := ⟨_, rfl⟩
  rw [← hx', ← hy']
  have HX' := Lib.hid hx'
  have HY' := Lib.hid hy'
  clear hx hy hT hx' hy'
  obtain ⟨w3, h3, hB, b0, b1⟩ := boxes2 w 36 36 #[.bool r1.neg, .slice A r1.xs.length c, .slice A' r1.ys.length c'] #[.bool r2.neg, .slice D r2.xs.length d, .slice D' r2.ys.length d']
  have H3 := Lib.hid h3
  have B0 := Lib.hid b0
  have B1 := Lib.hid b1
  have hs3 := hB.size
  clear h3 b0 b1
  go_enter Tryz.func13, Tryz.ntmps13
  go_wp2_with fail
  rw [← H3.out]
  (((try clear B0c1 B0c2 B0c3 B0c4 B0c5 B0c6); obtain ⟨B0c1, B0c2, B0c3, B0c4, B0c5, B0c6⟩ := Box.three (Hid.out B0)))
  (((try clear B1c1 B1c2 B1c3 B1c4 B1c5 B1c6); obtain ⟨B1c1, B1c2, B1c3, B1c4, B1c5, B1c6⟩ := Box.three (Hid.out B1)))
  refine (cross_calls _ _ _ r1 r2 K (B := B) (HX.out.below hB) (HY.out.below hB) (HT.out.below hB) hk1 hk2 hK hK1 (by omega)).mono ?_
  rw [← HX'.out, ← HY'.out]
  rintro e w4 ⟨a, b, c, d, Am, cm, rfl, hra, hrc, -, -, hB4⟩
  obtain ⟨Aa, ca, ea, -, -⟩ := id hra
  obtain ⟨rfl, rfl⟩ := pair_eq ea
  obtain ⟨Ac, cc, ec, -, -⟩ := id hrc
  obtain ⟨rfl, rfl⟩ := pair_eq ec
  clear ea ec
  have RA := Lib.hid hra
  have RC := Lib.hid hrc
  clear hra hrc
  ((replace hB := Below.on (Below.on hB (by ((repeat (first | assumption | exact Below.refl _ _ | refine Below.drew ?_ | refine below_drewN ?_ _ | refine Below.alloc' ?_ _ | refine Below.setCell ?_ (by first | omega | (dsimp only; omega) | (simp; done) | (simp; omega)) _ | refine Below.alloc ?_ (by first | assumption | exact Nat.le_refl _ | omega | (simp; done) | (simp; omega)) _))))) hB4; have := Below.size hB))
  go_wp2_with fail
  refine (icmp_calls _ _ _ x y (B := B) (RA.out.below (by ((repeat (first | assumption | exact Below.refl _ _ | refine Below.drew ?_ | refine below_drewN ?_ _ | refine Below.alloc' ?_ _ | refine Below.setCell ?_ (by first | omega | (dsimp only; omega) | (simp; done) | (simp; omega)) _ | refine Below.alloc ?_ (by first | assumption | exact Nat.le_refl _ | omega | (simp; done) | (simp; omega)) _))))) (RC.out.below (by ((repeat (first | assumption | exact Below.refl _ _ | refine Below.drew ?_ | refine below_drewN ?_ _ | refine Below.alloc' ?_ _ | refine Below.setCell ?_ (by first | omega | (dsimp only; omega) | (simp; done) | (simp; omega)) _ | refine Below.alloc ?_ (by first | assumption | exact Nat.le_refl _ | omega | (simp; done) | (simp; omega)) _))))) (by simp; omega)).mono ?_
  rintro e w5 ⟨rfl, hB5⟩
  ((replace hB := Below.on (Below.on hB (by ((repeat (first | assumption | exact Below.refl _ _ | refine Below.drew ?_ | refine below_drewN ?_ _ | refine Below.alloc' ?_ _ | refine Below.setCell ?_ (by first | omega | (dsimp only; omega) | (simp; done) | (simp; omega)) _ | refine Below.alloc ?_ (by first | assumption | exact Nat.le_refl _ | omega | (simp; done) | (simp; omega)) _))))) hB5; have := Below.size hB))
  go_wp2_with fail
  go_ret
  exact ⟨rfl, hB⟩

theorem Box.far2 {w : World} {g k : Nat} {t : TypeId} {cs : Array Value} (h : Box w g t cs) (hne : g ≠ k) (a b : Value) : Box ((w.setCell ⟨k, 0, none⟩ a).setCell ⟨k, 1, none⟩ b) g t cs := (h.far (p := ⟨k, 0, none⟩) hne a).far (p := ⟨k, 1, none⟩) hne b
theorem ick_int (z : Int) : ick (decide (z < 0)) (digs z.natAbs) = true := ick_of z

set_option maxRecDepth 100000 in
set_option maxHeartbeats 4000000 in
theorem rmake_calls (w : World) (v1 v2 : Value) (x y : Int) {B : Nat} (hx : RInt B w v1 x) (hy : RInt B w v2 y) (hT : Tab w) (hBw : B ≤ w.heap.size) (hsz : (digs x.natAbs).length + (digs y.natAbs).length ≤ 8796093022000) :
    Calls Tryz.prog 74 #[v1, v2] w fun e w' => (y = 0 → e = .returned (.tuple #[.agg #[.bool false, .slice none 0 0, .slice none 0 0], .int .i64 10])) ∧ (y ≠ 0 → ∃ v bs, e = .returned (.tuple #[v, .int .i64 0]) ∧ OwnQ w' v (over x y) bs ∧ Fresh w.heap.size w' bs) ∧ Below w.heap.size w w' := by
  obtain ⟨A, c, rfl, -, -⟩ := id hx
  obtain ⟨A', c', rfl, hc', hp'⟩ := id hy
  have HX := Lib.hid hx
  have HY := Lib.hid hy
  have HT := Lib.hid hT
  have HP := Lib.hid hp'.1
  have hPx : Hid (Parts w A (digs x.natAbs)) := by obtain ⟨A, c, e, _, h⟩ := hx; cases e; exact h.1
  clear hx hy hT hp'
  obtain ⟨w3, h3, hB, b0, b1, b2⟩ := boxes3 w 34 34 36 #[.bool (decide (x < 0)), .slice A (digs x.natAbs).length c] #[.bool (decide (y < 0)), .slice A' (digs y.natAbs).length c'] #[.bool false, .slice none 0 0, .slice none 0 0]
  have H3 := Lib.hid h3
  have B0 := Lib.hid b0
  have B1 := Lib.hid b1
  have B2 := Lib.hid b2
  have hs3 := hB.size
  clear h3 b0 b1 b2
  go_enter Tryz.func74, Tryz.ntmps74
  go_wp2_with fail
  rw [← H3.out]
  refine (icheck_calls _ _ _ _ _ (hPx.out.below hB)).mono ?_
  rw [ick_int]
  rintro e w4 ⟨rfl, hB4⟩
  ((replace B0 := Lib.hid (Box.below (Box.below (Hid.out B0) (by ((repeat (first | assumption | exact Below.refl _ _ | refine Below.drew ?_ | refine below_drewN ?_ _ | refine Below.alloc' ?_ _ | refine Below.setCell ?_ (by first | omega | (dsimp only; omega) | (simp; done) | (simp; omega)) _ | refine Below.alloc ?_ (by first | assumption | exact Nat.le_refl _ | omega | (simp; done) | (simp; omega)) _))))) hB4); (try clear B0c1 B0c2 B0c3 B0c4); obtain ⟨B0c1, B0c2, B0c3, B0c4⟩ := Box.two (Hid.out B0); have := Box.lt (Hid.out B0)))
  ((replace B1 := Lib.hid (Box.below (Box.below (Hid.out B1) (by ((repeat (first | assumption | exact Below.refl _ _ | refine Below.drew ?_ | refine below_drewN ?_ _ | refine Below.alloc' ?_ _ | refine Below.setCell ?_ (by first | omega | (dsimp only; omega) | (simp; done) | (simp; omega)) _ | refine Below.alloc ?_ (by first | assumption | exact Nat.le_refl _ | omega | (simp; done) | (simp; omega)) _))))) hB4); (try clear B1c1 B1c2 B1c3 B1c4); obtain ⟨B1c1, B1c2, B1c3, B1c4⟩ := Box.two (Hid.out B1); have := Box.lt (Hid.out B1)))
  ((replace B2 := Lib.hid (Box.below (Box.below (Hid.out B2) (by ((repeat (first | assumption | exact Below.refl _ _ | refine Below.drew ?_ | refine below_drewN ?_ _ | refine Below.alloc' ?_ _ | refine Below.setCell ?_ (by first | omega | (dsimp only; omega) | (simp; done) | (simp; omega)) _ | refine Below.alloc ?_ (by first | assumption | exact Nat.le_refl _ | omega | (simp; done) | (simp; omega)) _))))) hB4); (try clear B2c1 B2c2 B2c3 B2c4 B2c5 B2c6); obtain ⟨B2c1, B2c2, B2c3, B2c4, B2c5, B2c6⟩ := Box.three (Hid.out B2); have := Box.lt (Hid.out B2)))
  ((replace hB := Below.on (Below.on hB (by ((repeat (first | assumption | exact Below.refl _ _ | refine Below.drew ?_ | refine below_drewN ?_ _ | refine Below.alloc' ?_ _ | refine Below.setCell ?_ (by first | omega | (dsimp only; omega) | (simp; done) | (simp; omega)) _ | refine Below.alloc ?_ (by first | assumption | exact Nat.le_refl _ | omega | (simp; done) | (simp; omega)) _))))) hB4; have := Below.size hB))
  go_wp2_with fail
  refine (icheck_calls _ _ _ _ _ (HP.out.below hB)).mono ?_
  rw [ick_int]
  rintro e w5 ⟨rfl, hB5⟩
  ((replace B0 := Lib.hid (Box.below (Box.below (Hid.out B0) (by ((repeat (first | assumption | exact Below.refl _ _ | refine Below.drew ?_ | refine below_drewN ?_ _ | refine Below.alloc' ?_ _ | refine Below.setCell ?_ (by first | omega | (dsimp only; omega) | (simp; done) | (simp; omega)) _ | refine Below.alloc ?_ (by first | assumption | exact Nat.le_refl _ | omega | (simp; done) | (simp; omega)) _))))) hB5); (try clear B0c1 B0c2 B0c3 B0c4); obtain ⟨B0c1, B0c2, B0c3, B0c4⟩ := Box.two (Hid.out B0); have := Box.lt (Hid.out B0)))
  ((replace B1 := Lib.hid (Box.below (Box.below (Hid.out B1) (by ((repeat (first | assumption | exact Below.refl _ _ | refine Below.drew ?_ | refine below_drewN ?_ _ | refine Below.alloc' ?_ _ | refine Below.setCell ?_ (by first | omega | (dsimp only; omega) | (simp; done) | (simp; omega)) _ | refine Below.alloc ?_ (by first | assumption | exact Nat.le_refl _ | omega | (simp; done) | (simp; omega)) _))))) hB5); (try clear B1c1 B1c2 B1c3 B1c4); obtain ⟨B1c1, B1c2, B1c3, B1c4⟩ := Box.two (Hid.out B1); have := Box.lt (Hid.out B1)))
  ((replace B2 := Lib.hid (Box.below (Box.below (Hid.out B2) (by ((repeat (first | assumption | exact Below.refl _ _ | refine Below.drew ?_ | refine below_drewN ?_ _ | refine Below.alloc' ?_ _ | refine Below.setCell ?_ (by first | omega | (dsimp only; omega) | (simp; done) | (simp; omega)) _ | refine Below.alloc ?_ (by first | assumption | exact Nat.le_refl _ | omega | (simp; done) | (simp; omega)) _))))) hB5); (try clear B2c1 B2c2 B2c3 B2c4 B2c5 B2c6); obtain ⟨B2c1, B2c2, B2c3, B2c4, B2c5, B2c6⟩ := Box.three (Hid.out B2); have := Box.lt (Hid.out B2)))
  ((replace hB := Below.on (Below.on hB (by ((repeat (first | assumption | exact Below.refl _ _ | refine Below.drew ?_ | refine below_drewN ?_ _ | refine Below.alloc' ?_ _ | refine Below.setCell ?_ (by first | omega | (dsimp only; omega) | (simp; done) | (simp; omega)) _ | refine Below.alloc ?_ (by first | assumption | exact Nat.le_refl _ | omega | (simp; done) | (simp; omega)) _))))) hB5; have := Below.size hB))
  go_wp2_with fail
  refine (isign_calls _ _ y (HY.out.below hB) (by omega)).mono ?_
  rintro e w6 ⟨rfl, hB6⟩
  ((replace B0 := Lib.hid (Box.below (Box.below (Hid.out B0) (by ((repeat (first | assumption | exact Below.refl _ _ | refine Below.drew ?_ | refine below_drewN ?_ _ | refine Below.alloc' ?_ _ | refine Below.setCell ?_ (by first | omega | (dsimp only; omega) | (simp; done) | (simp; omega)) _ | refine Below.alloc ?_ (by first | assumption | exact Nat.le_refl _ | omega | (simp; done) | (simp; omega)) _))))) hB6); (try clear B0c1 B0c2 B0c3 B0c4); obtain ⟨B0c1, B0c2, B0c3, B0c4⟩ := Box.two (Hid.out B0); have := Box.lt (Hid.out B0)))
  ((replace B1 := Lib.hid (Box.below (Box.below (Hid.out B1) (by ((repeat (first | assumption | exact Below.refl _ _ | refine Below.drew ?_ | refine below_drewN ?_ _ | refine Below.alloc' ?_ _ | refine Below.setCell ?_ (by first | omega | (dsimp only; omega) | (simp; done) | (simp; omega)) _ | refine Below.alloc ?_ (by first | assumption | exact Nat.le_refl _ | omega | (simp; done) | (simp; omega)) _))))) hB6); (try clear B1c1 B1c2 B1c3 B1c4); obtain ⟨B1c1, B1c2, B1c3, B1c4⟩ := Box.two (Hid.out B1); have := Box.lt (Hid.out B1)))
  ((replace B2 := Lib.hid (Box.below (Box.below (Hid.out B2) (by ((repeat (first | assumption | exact Below.refl _ _ | refine Below.drew ?_ | refine below_drewN ?_ _ | refine Below.alloc' ?_ _ | refine Below.setCell ?_ (by first | omega | (dsimp only; omega) | (simp; done) | (simp; omega)) _ | refine Below.alloc ?_ (by first | assumption | exact Nat.le_refl _ | omega | (simp; done) | (simp; omega)) _))))) hB6); (try clear B2c1 B2c2 B2c3 B2c4 B2c5 B2c6); obtain ⟨B2c1, B2c2, B2c3, B2c4, B2c5, B2c6⟩ := Box.three (Hid.out B2); have := Box.lt (Hid.out B2)))
  ((replace hB := Below.on (Below.on hB (by ((repeat (first | assumption | exact Below.refl _ _ | refine Below.drew ?_ | refine below_drewN ?_ _ | refine Below.alloc' ?_ _ | refine Below.setCell ?_ (by first | omega | (dsimp only; omega) | (simp; done) | (simp; omega)) _ | refine Below.alloc ?_ (by first | assumption | exact Nat.le_refl _ | omega | (simp; done) | (simp; omega)) _))))) hB6; have := Below.size hB))
  by_cases h0 : y = 0
  · have hsb : (sgn y == 0) = true := by rw [h0]; rfl
    have H0 := Lib.hid h0
    clear h0
    go_wp2_with fail
    refine bodyPost_ret (v := .tuple #[.agg #[.bool false, .slice none 0 0, .slice none 0 0], .int .i64 10]) (result_var2 rfl (g := w.heap.size + 1 + 1) rfl rfl (load_rat _ _ _ _ _ (B2.out.put3 _ _ _))) rfl ⟨fun _ => rfl, fun h => absurd H0.out h, by ((repeat (first | assumption | exact Below.refl _ _ | refine Below.drew ?_ | refine below_drewN ?_ _ | refine Below.alloc' ?_ _ | refine Below.setCell ?_ (by first | omega | (dsimp only; omega) | (simp; done) | (simp; omega)) _ | refine Below.alloc ?_ (by first | assumption | exact Nat.le_refl _ | omega | (simp; done) | (simp; omega)) _)))⟩
  · have hsb : (sgn y == 0) = false := by
      unfold sgn
      split <;> (try split) <;> simp <;> omega
    have hyn : y.natAbs ≠ 0 := by omega
    have H0 := Lib.hid h0
    clear h0
    obtain ⟨q, hq⟩ : ∃ q, q = over x y := ⟨_, rfl⟩
    by_cases hyn0 : y < 0
    · have hq' : q = mkRat (-x) y.natAbs := by rw [hq]; unfold over; rw [if_pos hyn0]
      have HQ := Lib.hid hq
      have HQ' := Lib.hid hq'
      have hyb : decide (y < 0) = true := decide_eq_true hyn0
      obtain ⟨u, hu⟩ : ∃ u, u = -x := ⟨_, rfl⟩
      have hul : (digs u.natAbs).length ≤ (digs x.natAbs).length := by rw [hu, Int.natAbs_neg]; exact Nat.le_refl _
      have HU := Lib.hid hu
      have HYb := Lib.hid hyb
      clear hq hq' hyn0 hu
      go_wp2_with fail
      refine (ineg_calls _ _ x (HX.out.below hB) (by omega)).mono ?_
      rw [← HU.out]
      rintro e w7 ⟨v7, b7, rfl, hO7, -, hB7⟩
      obtain ⟨A7, c7, rfl, -, -⟩ := id (hO7.reads B)
      have R7 := Lib.hid (hO7.reads B)
      clear hO7
      ((replace B0 := Lib.hid (Box.below (Box.below (Hid.out B0) (by ((repeat (first | assumption | exact Below.refl _ _ | refine Below.drew ?_ | refine below_drewN ?_ _ | refine Below.alloc' ?_ _ | refine Below.setCell ?_ (by first | omega | (dsimp only; omega) | (simp; done) | (simp; omega)) _ | refine Below.alloc ?_ (by first | assumption | exact Nat.le_refl _ | omega | (simp; done) | (simp; omega)) _))))) hB7); (try clear B0c1 B0c2 B0c3 B0c4); obtain ⟨B0c1, B0c2, B0c3, B0c4⟩ := Box.two (Hid.out B0); have := Box.lt (Hid.out B0)))
      ((replace B1 := Lib.hid (Box.below (Box.below (Hid.out B1) (by ((repeat (first | assumption | exact Below.refl _ _ | refine Below.drew ?_ | refine below_drewN ?_ _ | refine Below.alloc' ?_ _ | refine Below.setCell ?_ (by first | omega | (dsimp only; omega) | (simp; done) | (simp; omega)) _ | refine Below.alloc ?_ (by first | assumption | exact Nat.le_refl _ | omega | (simp; done) | (simp; omega)) _))))) hB7); (try clear B1c1 B1c2 B1c3 B1c4); obtain ⟨B1c1, B1c2, B1c3, B1c4⟩ := Box.two (Hid.out B1); have := Box.lt (Hid.out B1)))
      ((replace B2 := Lib.hid (Box.below (Box.below (Hid.out B2) (by ((repeat (first | assumption | exact Below.refl _ _ | refine Below.drew ?_ | refine below_drewN ?_ _ | refine Below.alloc' ?_ _ | refine Below.setCell ?_ (by first | omega | (dsimp only; omega) | (simp; done) | (simp; omega)) _ | refine Below.alloc ?_ (by first | assumption | exact Nat.le_refl _ | omega | (simp; done) | (simp; omega)) _))))) hB7); (try clear B2c1 B2c2 B2c3 B2c4 B2c5 B2c6); obtain ⟨B2c1, B2c2, B2c3, B2c4, B2c5, B2c6⟩ := Box.three (Hid.out B2); have := Box.lt (Hid.out B2)))
      ((replace hB := Below.on (Below.on hB (by ((repeat (first | assumption | exact Below.refl _ _ | refine Below.drew ?_ | refine below_drewN ?_ _ | refine Below.alloc' ?_ _ | refine Below.setCell ?_ (by first | omega | (dsimp only; omega) | (simp; done) | (simp; omega)) _ | refine Below.alloc ?_ (by first | assumption | exact Nat.le_refl _ | omega | (simp; done) | (simp; omega)) _))))) hB7; have := Below.size hB))
      go_wp2_with fail
      obtain ⟨w9, h9⟩ : ∃ w9, w9 = (w7.setCell ⟨w.heap.size, 0, none⟩ (.bool (decide (u < 0)))).setCell ⟨w.heap.size, 1, none⟩ (.slice A7 (digs u.natAbs).length c7) := ⟨_, rfl⟩
      have R9 : Hid (RInt B w9 (.agg #[.bool (decide (u < 0)), .slice A7 (digs u.natAbs).length c7]) u) := by rw [h9]; exact R7.out.set2 B0.out (by decide) (by omega) _ _
      have B2' : Hid (Box w9 (w.heap.size + 1 + 1) 36 #[.bool false, .slice none 0 0, .slice none 0 0]) := by rw [h9]; exact B2.out.far2 (by omega) _ _
      have hB9 : Below w.heap.size w w9 := by rw [h9]; exact (hB.setCell (p := ⟨w.heap.size, 0, none⟩) (Nat.le_refl _) _).setCell (p := ⟨w.heap.size, 1, none⟩) (Nat.le_refl _) _
      rw [← h9]
      have hs9 := hB9.size
      clear h9
      refine (lowest_calls _ _ u _ _ y.natAbs (B := B) R9.out (HP.out.below hB9) hc' hyn (HT.out.below hB9) (by omega)).mono ?_
      rw [HU.out, ← HQ'.out]
      rintro e w8 ⟨v8, b8, rfl, hO8, hF8, hB8⟩
      obtain ⟨A8, c8, A8', c8', rfl, -, -, -, -⟩ := id (hO8.reads B)
      have HO8 := Lib.hid hO8
      have HF8 := Lib.hid (hF8.low hs9)
      clear hO8 hF8
      ((replace B2' := Lib.hid (Box.below (Box.below (Hid.out B2') (by ((repeat (first | assumption | exact Below.refl _ _ | refine Below.drew ?_ | refine below_drewN ?_ _ | refine Below.alloc' ?_ _ | refine Below.setCell ?_ (by first | omega | (dsimp only; omega) | (simp; done) | (simp; omega)) _ | refine Below.alloc ?_ (by first | assumption | exact Nat.le_refl _ | omega | (simp; done) | (simp; omega)) _))))) hB8); (try clear B2'c1 B2'c2 B2'c3 B2'c4 B2'c5 B2'c6); obtain ⟨B2'c1, B2'c2, B2'c3, B2'c4, B2'c5, B2'c6⟩ := Box.three (Hid.out B2'); have := Box.lt (Hid.out B2')))
      ((replace hB9 := Below.on (Below.on hB9 (by ((repeat (first | assumption | exact Below.refl _ _ | refine Below.drew ?_ | refine below_drewN ?_ _ | refine Below.alloc' ?_ _ | refine Below.setCell ?_ (by first | omega | (dsimp only; omega) | (simp; done) | (simp; omega)) _ | refine Below.alloc ?_ (by first | assumption | exact Nat.le_refl _ | omega | (simp; done) | (simp; omega)) _))))) hB8; have := Below.size hB9))
      go_wp2_with fail
      refine bodyPost_ret (v := .tuple #[.agg #[.bool (decide (q.num < 0)), .slice A8 (digs q.num.natAbs).length c8, .slice A8' (digs q.den).length c8'], .int .i64 0]) (result_var2 rfl (g := w.heap.size + 1 + 1) rfl rfl (load_rat _ _ _ _ _ (B2'.out.put3 _ _ _))) rfl ⟨fun h => absurd h H0.out, fun _ => ⟨_, b8, rfl, ?_, HF8.out.up (by simp)⟩, by ((repeat (first | assumption | exact Below.refl _ _ | refine Below.drew ?_ | refine below_drewN ?_ _ | refine Below.alloc' ?_ _ | refine Below.setCell ?_ (by first | omega | (dsimp only; omega) | (simp; done) | (simp; omega)) _ | refine Below.alloc ?_ (by first | assumption | exact Nat.le_refl _ | omega | (simp; done) | (simp; omega)) _)))⟩
      rw [← HQ.out]
      exact HO8.out.set3 B2'.out (by decide) _ _ _
    · have hq' : q = mkRat x y.natAbs := by rw [hq]; unfold over; rw [if_neg hyn0]
      have HQ := Lib.hid hq
      have HQ' := Lib.hid hq'
      have hyb : decide (y < 0) = false := decide_eq_false hyn0
      have HYb := Lib.hid hyb
      clear hq hq' hyn0
      go_wp2_with fail
      refine (lowest_calls _ _ x _ _ y.natAbs (B := B) (HX.out.below (by ((repeat (first | assumption | exact Below.refl _ _ | refine Below.drew ?_ | refine below_drewN ?_ _ | refine Below.alloc' ?_ _ | refine Below.setCell ?_ (by first | omega | (dsimp only; omega) | (simp; done) | (simp; omega)) _ | refine Below.alloc ?_ (by first | assumption | exact Nat.le_refl _ | omega | (simp; done) | (simp; omega)) _))))) (HP.out.below (by ((repeat (first | assumption | exact Below.refl _ _ | refine Below.drew ?_ | refine below_drewN ?_ _ | refine Below.alloc' ?_ _ | refine Below.setCell ?_ (by first | omega | (dsimp only; omega) | (simp; done) | (simp; omega)) _ | refine Below.alloc ?_ (by first | assumption | exact Nat.le_refl _ | omega | (simp; done) | (simp; omega)) _))))) hc' hyn (HT.out.below (by ((repeat (first | assumption | exact Below.refl _ _ | refine Below.drew ?_ | refine below_drewN ?_ _ | refine Below.alloc' ?_ _ | refine Below.setCell ?_ (by first | omega | (dsimp only; omega) | (simp; done) | (simp; omega)) _ | refine Below.alloc ?_ (by first | assumption | exact Nat.le_refl _ | omega | (simp; done) | (simp; omega)) _))))) (by omega)).mono ?_
      rw [← HQ'.out]
      rintro e w8 ⟨v8, b8, rfl, hO8, hF8, hB8⟩
      obtain ⟨A8, c8, A8', c8', rfl, -, -, -, -⟩ := id (hO8.reads B)
      have HO8 := Lib.hid hO8
      have HF8 := Lib.hid (hF8.low (show w.heap.size ≤ _ by omega))
      clear hO8 hF8
      ((replace B2 := Lib.hid (Box.below (Box.below (Hid.out B2) (by ((repeat (first | assumption | exact Below.refl _ _ | refine Below.drew ?_ | refine below_drewN ?_ _ | refine Below.alloc' ?_ _ | refine Below.setCell ?_ (by first | omega | (dsimp only; omega) | (simp; done) | (simp; omega)) _ | refine Below.alloc ?_ (by first | assumption | exact Nat.le_refl _ | omega | (simp; done) | (simp; omega)) _))))) hB8); (try clear B2c1 B2c2 B2c3 B2c4 B2c5 B2c6); obtain ⟨B2c1, B2c2, B2c3, B2c4, B2c5, B2c6⟩ := Box.three (Hid.out B2); have := Box.lt (Hid.out B2)))
      ((replace hB := Below.on (Below.on hB (by ((repeat (first | assumption | exact Below.refl _ _ | refine Below.drew ?_ | refine below_drewN ?_ _ | refine Below.alloc' ?_ _ | refine Below.setCell ?_ (by first | omega | (dsimp only; omega) | (simp; done) | (simp; omega)) _ | refine Below.alloc ?_ (by first | assumption | exact Nat.le_refl _ | omega | (simp; done) | (simp; omega)) _))))) hB8; have := Below.size hB))
      go_wp2_with fail
      refine bodyPost_ret (v := .tuple #[.agg #[.bool (decide (q.num < 0)), .slice A8 (digs q.num.natAbs).length c8, .slice A8' (digs q.den).length c8'], .int .i64 0]) (result_var2 rfl (g := w.heap.size + 1 + 1) rfl rfl (load_rat _ _ _ _ _ (B2.out.put3 _ _ _))) rfl ⟨fun h => absurd h H0.out, fun _ => ⟨_, b8, rfl, ?_, HF8.out.up (by simp)⟩, by ((repeat (first | assumption | exact Below.refl _ _ | refine Below.drew ?_ | refine below_drewN ?_ _ | refine Below.alloc' ?_ _ | refine Below.setCell ?_ (by first | omega | (dsimp only; omega) | (simp; done) | (simp; omega)) _ | refine Below.alloc ?_ (by first | assumption | exact Nat.le_refl _ | omega | (simp; done) | (simp; omega)) _)))⟩
      rw [← HQ.out]
      exact HO8.out.set3 B2.out (by decide) _ _ _

set_option maxRecDepth 100000 in
set_option maxHeartbeats 4000000 in
theorem rdiv_calls (w : World) (v1 v2 : Value) (q1 q2 : Rat) (K : Nat) {B : Nat} (hx : RawAt B w v1 (rawOf q1)) (hy : RawAt B w v2 (rawOf q2)) (hT : Tab w) (hk1 : Fits K q1) (hk2 : Fits K q2) (hK : K ≤ 1099511627776) (hK1 : 1 ≤ K) (hBw : B ≤ w.heap.size) :
    Calls Tryz.prog 37 #[v1, v2] w fun e w' => (q2 = 0 → e = .returned (.tuple #[.agg #[.bool false, .slice none 0 0, .slice none 0 0], .int .i64 10])) ∧ (q2 ≠ 0 → ∃ v bs, e = .returned (.tuple #[v, .int .i64 0]) ∧ OwnQ w' v (q1 / q2) bs ∧ Fresh w.heap.size w' bs) ∧ Below w.heap.size w w' := by
  have hl1 := hk1.1
  have hl2 := hk1.2
  have hl3 := hk2.1
  have hl4 := hk2.2
  obtain ⟨f1, f2, -⟩ := cross_len hk1 hk2
  have hz1 : q2 = 0 → q2.num * q1.den = 0 := fun h => by rw [h]; simp
  have hz2 : q2 ≠ 0 → q2.num * q1.den ≠ 0 := fun h => Int.mul_ne_zero (fun h1 => h (Rat.num_eq_zero.1 h1)) (by have := q1.den_nz; omega)
  have hz3 : q2 ≠ 0 → over (q1.num * q2.den) (q2.num * q1.den) = q1 / q2 := over_cross q1 q2
  obtain ⟨A, c, A', c', rfl, -, -, -, -⟩ := id hx
  obtain ⟨D, d, D', d', rfl, -, -, -, -⟩ := id hy
  have HX := Lib.hid hx
  have HY := Lib.hid hy
  have HT := Lib.hid hT
  have HK1 := Lib.hid hk1
  have HK2 := Lib.hid hk2
  obtain ⟨x, hx'⟩ : ∃ x, x = q1.num * q2.den := ⟨_, rfl⟩
  obtain ⟨y, hy'⟩ : ∃ y, y = q2.num * q1.den := ⟨_, rfl⟩
  rw [← hx'] at f1 hz3
  rw [← hy'] at f2 hz1 hz2 hz3
  have HX' := Lib.hid hx'
  have HY' := Lib.hid hy'
  have HZ1 := Lib.hid hz1
  have HZ2 := Lib.hid hz2
  have HZ3 := Lib.hid hz3
  clear hx hy hT hx' hy' hk1 hk2 hz1 hz2 hz3
  obtain ⟨w3, h3, hB, b0, b1, b2⟩ := boxes3 w 36 36 36 #[.bool (rawOf q1).neg, .slice A (rawOf q1).xs.length c, .slice A' (rawOf q1).ys.length c'] #[.bool (rawOf q2).neg, .slice D (rawOf q2).xs.length d, .slice D' (rawOf q2).ys.length d'] #[.bool false, .slice none 0 0, .slice none 0 0]
  have H3 := Lib.hid h3
  have B0 := Lib.hid b0
  have B1 := Lib.hid b1
  have B2 := Lib.hid b2
  have hs3 := hB.size
  have hS1 : (rawOf q1).xs.length + (rawOf q1).ys.length ≤ 8796093022000 := by show (digs _).length + (digs _).length ≤ _; omega
  have hS2 : (rawOf q2).xs.length + (rawOf q2).ys.length ≤ 8796093022000 := by show (digs _).length + (digs _).length ≤ _; omega
  clear h3 b0 b1 b2
  go_enter Tryz.func37, Tryz.ntmps37
  go_wp2_with fail
  rw [← H3.out]
  refine (rcheck_calls _ _ (rawOf q1) (HX.out.below hB) (HT.out.below hB) hS1).mono ?_
  rw [rawOf_ok]
  rintro e w4 ⟨rfl, hB4⟩
  ((replace B0 := Lib.hid (Box.below (Box.below (Hid.out B0) (by ((repeat (first | assumption | exact Below.refl _ _ | refine Below.drew ?_ | refine below_drewN ?_ _ | refine Below.alloc' ?_ _ | refine Below.setCell ?_ (by first | omega | (dsimp only; omega) | (simp; done) | (simp; omega)) _ | refine Below.alloc ?_ (by first | assumption | exact Nat.le_refl _ | omega | (simp; done) | (simp; omega)) _))))) hB4); (try clear B0c1 B0c2 B0c3 B0c4 B0c5 B0c6); obtain ⟨B0c1, B0c2, B0c3, B0c4, B0c5, B0c6⟩ := Box.three (Hid.out B0); have := Box.lt (Hid.out B0)))
  ((replace B1 := Lib.hid (Box.below (Box.below (Hid.out B1) (by ((repeat (first | assumption | exact Below.refl _ _ | refine Below.drew ?_ | refine below_drewN ?_ _ | refine Below.alloc' ?_ _ | refine Below.setCell ?_ (by first | omega | (dsimp only; omega) | (simp; done) | (simp; omega)) _ | refine Below.alloc ?_ (by first | assumption | exact Nat.le_refl _ | omega | (simp; done) | (simp; omega)) _))))) hB4); (try clear B1c1 B1c2 B1c3 B1c4 B1c5 B1c6); obtain ⟨B1c1, B1c2, B1c3, B1c4, B1c5, B1c6⟩ := Box.three (Hid.out B1); have := Box.lt (Hid.out B1)))
  ((replace B2 := Lib.hid (Box.below (Box.below (Hid.out B2) (by ((repeat (first | assumption | exact Below.refl _ _ | refine Below.drew ?_ | refine below_drewN ?_ _ | refine Below.alloc' ?_ _ | refine Below.setCell ?_ (by first | omega | (dsimp only; omega) | (simp; done) | (simp; omega)) _ | refine Below.alloc ?_ (by first | assumption | exact Nat.le_refl _ | omega | (simp; done) | (simp; omega)) _))))) hB4); (try clear B2c1 B2c2 B2c3 B2c4 B2c5 B2c6); obtain ⟨B2c1, B2c2, B2c3, B2c4, B2c5, B2c6⟩ := Box.three (Hid.out B2); have := Box.lt (Hid.out B2)))
  ((replace hB := Below.on (Below.on hB (by ((repeat (first | assumption | exact Below.refl _ _ | refine Below.drew ?_ | refine below_drewN ?_ _ | refine Below.alloc' ?_ _ | refine Below.setCell ?_ (by first | omega | (dsimp only; omega) | (simp; done) | (simp; omega)) _ | refine Below.alloc ?_ (by first | assumption | exact Nat.le_refl _ | omega | (simp; done) | (simp; omega)) _))))) hB4; have := Below.size hB))
  go_wp2_with fail
  refine (rcheck_calls _ _ (rawOf q2) (HY.out.below hB) (HT.out.below hB) hS2).mono ?_
  rw [rawOf_ok]
  rintro e w5 ⟨rfl, hB5⟩
  ((replace B0 := Lib.hid (Box.below (Box.below (Hid.out B0) (by ((repeat (first | assumption | exact Below.refl _ _ | refine Below.drew ?_ | refine below_drewN ?_ _ | refine Below.alloc' ?_ _ | refine Below.setCell ?_ (by first | omega | (dsimp only; omega) | (simp; done) | (simp; omega)) _ | refine Below.alloc ?_ (by first | assumption | exact Nat.le_refl _ | omega | (simp; done) | (simp; omega)) _))))) hB5); (try clear B0c1 B0c2 B0c3 B0c4 B0c5 B0c6); obtain ⟨B0c1, B0c2, B0c3, B0c4, B0c5, B0c6⟩ := Box.three (Hid.out B0); have := Box.lt (Hid.out B0)))
  ((replace B1 := Lib.hid (Box.below (Box.below (Hid.out B1) (by ((repeat (first | assumption | exact Below.refl _ _ | refine Below.drew ?_ | refine below_drewN ?_ _ | refine Below.alloc' ?_ _ | refine Below.setCell ?_ (by first | omega | (dsimp only; omega) | (simp; done) | (simp; omega)) _ | refine Below.alloc ?_ (by first | assumption | exact Nat.le_refl _ | omega | (simp; done) | (simp; omega)) _))))) hB5); (try clear B1c1 B1c2 B1c3 B1c4 B1c5 B1c6); obtain ⟨B1c1, B1c2, B1c3, B1c4, B1c5, B1c6⟩ := Box.three (Hid.out B1); have := Box.lt (Hid.out B1)))
  ((replace B2 := Lib.hid (Box.below (Box.below (Hid.out B2) (by ((repeat (first | assumption | exact Below.refl _ _ | refine Below.drew ?_ | refine below_drewN ?_ _ | refine Below.alloc' ?_ _ | refine Below.setCell ?_ (by first | omega | (dsimp only; omega) | (simp; done) | (simp; omega)) _ | refine Below.alloc ?_ (by first | assumption | exact Nat.le_refl _ | omega | (simp; done) | (simp; omega)) _))))) hB5); (try clear B2c1 B2c2 B2c3 B2c4 B2c5 B2c6); obtain ⟨B2c1, B2c2, B2c3, B2c4, B2c5, B2c6⟩ := Box.three (Hid.out B2); have := Box.lt (Hid.out B2)))
  ((replace hB := Below.on (Below.on hB (by ((repeat (first | assumption | exact Below.refl _ _ | refine Below.drew ?_ | refine below_drewN ?_ _ | refine Below.alloc' ?_ _ | refine Below.setCell ?_ (by first | omega | (dsimp only; omega) | (simp; done) | (simp; omega)) _ | refine Below.alloc ?_ (by first | assumption | exact Nat.le_refl _ | omega | (simp; done) | (simp; omega)) _))))) hB5; have := Below.size hB))
  go_wp2_with fail
  refine (cross_calls _ _ _ (rawOf q1) (rawOf q2) K (B := B) (HX.out.below hB) (HY.out.below hB) (HT.out.below hB) HK1.out HK2.out hK hK1 (by omega)).mono ?_
  rw [rawOf_q, rawOf_q, ← HX'.out, ← HY'.out]
  rintro e w6 ⟨a, b, c, d, Am, cm, rfl, hra, hrc, -, -, hB6⟩
  obtain ⟨Aa, ca, ea, -, -⟩ := id hra
  obtain ⟨rfl, rfl⟩ := pair_eq ea
  obtain ⟨Ac, cc, ec, -, -⟩ := id hrc
  obtain ⟨rfl, rfl⟩ := pair_eq ec
  clear ea ec
  have RA := Lib.hid hra
  have RC := Lib.hid hrc
  clear hra hrc
  ((replace B2 := Lib.hid (Box.below (Box.below (Hid.out B2) (by ((repeat (first | assumption | exact Below.refl _ _ | refine Below.drew ?_ | refine below_drewN ?_ _ | refine Below.alloc' ?_ _ | refine Below.setCell ?_ (by first | omega | (dsimp only; omega) | (simp; done) | (simp; omega)) _ | refine Below.alloc ?_ (by first | assumption | exact Nat.le_refl _ | omega | (simp; done) | (simp; omega)) _))))) hB6); (try clear B2c1 B2c2 B2c3 B2c4 B2c5 B2c6); obtain ⟨B2c1, B2c2, B2c3, B2c4, B2c5, B2c6⟩ := Box.three (Hid.out B2); have := Box.lt (Hid.out B2)))
  ((replace hB := Below.on (Below.on hB (by ((repeat (first | assumption | exact Below.refl _ _ | refine Below.drew ?_ | refine below_drewN ?_ _ | refine Below.alloc' ?_ _ | refine Below.setCell ?_ (by first | omega | (dsimp only; omega) | (simp; done) | (simp; omega)) _ | refine Below.alloc ?_ (by first | assumption | exact Nat.le_refl _ | omega | (simp; done) | (simp; omega)) _))))) hB6; have := Below.size hB))
  go_wp2_with fail
  refine (rmake_calls _ _ _ x y (B := B) (RA.out.below (by ((repeat (first | assumption | exact Below.refl _ _ | refine Below.drew ?_ | refine below_drewN ?_ _ | refine Below.alloc' ?_ _ | refine Below.setCell ?_ (by first | omega | (dsimp only; omega) | (simp; done) | (simp; omega)) _ | refine Below.alloc ?_ (by first | assumption | exact Nat.le_refl _ | omega | (simp; done) | (simp; omega)) _))))) (RC.out.below (by ((repeat (first | assumption | exact Below.refl _ _ | refine Below.drew ?_ | refine below_drewN ?_ _ | refine Below.alloc' ?_ _ | refine Below.setCell ?_ (by first | omega | (dsimp only; omega) | (simp; done) | (simp; omega)) _ | refine Below.alloc ?_ (by first | assumption | exact Nat.le_refl _ | omega | (simp; done) | (simp; omega)) _))))) (HT.out.below (by ((repeat (first | assumption | exact Below.refl _ _ | refine Below.drew ?_ | refine below_drewN ?_ _ | refine Below.alloc' ?_ _ | refine Below.setCell ?_ (by first | omega | (dsimp only; omega) | (simp; done) | (simp; omega)) _ | refine Below.alloc ?_ (by first | assumption | exact Nat.le_refl _ | omega | (simp; done) | (simp; omega)) _))))) (by simp; omega) (by omega)).mono ?_
  rintro e w7 ⟨he0, he1, hB7⟩
  ((replace B2 := Lib.hid (Box.below (Box.below (Hid.out B2) (by ((repeat (first | assumption | exact Below.refl _ _ | refine Below.drew ?_ | refine below_drewN ?_ _ | refine Below.alloc' ?_ _ | refine Below.setCell ?_ (by first | omega | (dsimp only; omega) | (simp; done) | (simp; omega)) _ | refine Below.alloc ?_ (by first | assumption | exact Nat.le_refl _ | omega | (simp; done) | (simp; omega)) _))))) hB7); (try clear B2c1 B2c2 B2c3 B2c4 B2c5 B2c6); obtain ⟨B2c1, B2c2, B2c3, B2c4, B2c5, B2c6⟩ := Box.three (Hid.out B2); have := Box.lt (Hid.out B2)))
  have hsz : w.heap.size ≤ w6.heap.size := hB.size
  ((replace hB := Below.on (Below.on hB (by ((repeat (first | assumption | exact Below.refl _ _ | refine Below.drew ?_ | refine below_drewN ?_ _ | refine Below.alloc' ?_ _ | refine Below.setCell ?_ (by first | omega | (dsimp only; omega) | (simp; done) | (simp; omega)) _ | refine Below.alloc ?_ (by first | assumption | exact Nat.le_refl _ | omega | (simp; done) | (simp; omega)) _))))) hB7; have := Below.size hB))
  by_cases h0 : q2 = 0
  · obtain rfl := he0 (HZ1.out h0)
    have H0 := Lib.hid h0
    clear h0 he0 he1
    go_wp2_with fail
    refine bodyPost_ret (v := .tuple #[.agg #[.bool false, .slice none 0 0, .slice none 0 0], .int .i64 10]) (result_var2 rfl (g := w.heap.size + 1 + 1) rfl rfl (load_rat _ _ _ _ _ (B2.out.put3 _ _ _))) rfl ⟨fun _ => rfl, fun h => absurd H0.out h, by ((repeat (first | assumption | exact Below.refl _ _ | refine Below.drew ?_ | refine below_drewN ?_ _ | refine Below.alloc' ?_ _ | refine Below.setCell ?_ (by first | omega | (dsimp only; omega) | (simp; done) | (simp; omega)) _ | refine Below.alloc ?_ (by first | assumption | exact Nat.le_refl _ | omega | (simp; done) | (simp; omega)) _)))⟩
  · obtain ⟨v7, b7, rfl, hO7, hF7⟩ := he1 (HZ2.out h0)
    obtain ⟨A7, c7, A7', c7', rfl, -, -, -, -⟩ := id (hO7.reads B)
    have HO7 := Lib.hid hO7
    have HF7 := Lib.hid (hF7.low (show w.heap.size ≤ _ by simp; omega))
    obtain ⟨q, hq⟩ : ∃ q, q = over x y := ⟨_, rfl⟩
    have HQ := Lib.hid hq
    rw [← hq] at HO7 ⊢
    have H0 := Lib.hid h0
    clear h0 he0 he1 hO7 hF7 hq
    go_wp2_with fail
    refine bodyPost_ret (v := .tuple #[.agg #[.bool (decide (q.num < 0)), .slice A7 (digs q.num.natAbs).length c7, .slice A7' (digs q.den).length c7'], .int .i64 0]) (result_var2 rfl (g := w.heap.size + 1 + 1) rfl rfl (load_rat _ _ _ _ _ (B2.out.put3 _ _ _))) rfl ⟨fun h => absurd h H0.out, fun _ => ⟨_, b7, rfl, ?_, HF7.out.up (by simp)⟩, by ((repeat (first | assumption | exact Below.refl _ _ | refine Below.drew ?_ | refine below_drewN ?_ _ | refine Below.alloc' ?_ _ | refine Below.setCell ?_ (by first | omega | (dsimp only; omega) | (simp; done) | (simp; omega)) _ | refine Below.alloc ?_ (by first | assumption | exact Nat.le_refl _ | omega | (simp; done) | (simp; omega)) _)))⟩
    rw [← HZ3.out H0.out, ← HQ.out]
    exact HO7.out.set3 B2.out (by decide) _ _ _

end Go.Proofs.YthofbikhomnjpaaGreatDoor
