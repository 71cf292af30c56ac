import Derived.Test.YthofbikhomnjpaaGreatDoorR2
namespace Go.Proofs.YthofbikhomnjpaaGreatDoor
open Go.RowKit
set_option linter.unusedVariables false
set_option linter.unusedSimpArgs false

theorem pair_eq {a b p q : Value} (h : Value.agg #[a, b] = .agg #[p, q]) : a = p ∧ b = q := by simpa using h
/-- What a function of two whole numbers, handed over, makes of them. -/
def Does (w0 : World) (k : Nat) (caps : Array Value) (x y z : Int) : Prop := ∀ (B : Nat) (w : World) (v1 v2 : Value), RInt B w v1 x → RInt B w v2 y → Below w0.heap.size w0 w → B ≤ w.heap.size →
  Calls Tryz.prog k (#[v1, v2] ++ caps) w fun e w' => ∃ v bs, e = .returned v ∧ OwnI w' v z bs ∧ Fresh w.heap.size w' bs ∧ Below w.heap.size w w'
theorem Does.later {w0 w1 : World} {k : Nat} {caps : Array Value} {x y z : Int} (h : Does w0 k caps x y z) (hb : Below w0.heap.size w0 w1) : Does w1 k caps x y z := fun B w v1 v2 h1 h2 hb' hB => h B w v1 v2 h1 h2 (Below.on hb hb') hB

set_option maxRecDepth 100000 in
set_option maxHeartbeats 4000000 in
theorem with_calls (w : World) (k : Nat) (caps : Array Value) (v1 v2 : Value) (r1 r2 : Raw) (z : Int) (K : Nat) {B : Nat} (hx : RawAt B w v1 r1) (hy : RawAt B w v2 r2) (hT : Tab w) (hk1 : r1.le K) (hk2 : r2.le K) (hK : K ≤ 1099511627776) (hK1 : 1 ≤ K) (hBw : B ≤ w.heap.size)
    (hz : (digs z.natAbs).length ≤ 2 * K + 1) (hen : Enters Tryz.prog k) (hdo : Does w k caps (r1.q.num * r2.q.den) (r2.q.num * r1.q.den) z) :
    Calls Tryz.prog 59 #[v1, v2, .func (.func k) #[] caps] w fun e w' => ∃ v bs, e = .returned v ∧ OwnQ w' v (mkRat z (r1.q.den * r2.q.den)) bs ∧ Fresh w.heap.size w' bs ∧ Below w.heap.size w w' := by
  have hf1 := Raw.q_le hx.small hk1 hK1
  have hf2 := Raw.q_le hy.small hk2 hK1
  have hcl := (cross_len hf1 hf2).2.2
  have hm0 : r1.q.den * r2.q.den ≠ 0 := Nat.mul_ne_zero r1.q.den_nz r2.q.den_nz
  obtain ⟨A, c, A', c', rfl, -, -, -, -⟩ := id hx
  obtain ⟨D, d, D', d', rfl, -, -, -, -⟩ := id hy
  have HX := Lib.hid hx
  have HY := Lib.hid hy
  have HT := Lib.hid hT
  have HD := Lib.hid hdo
  obtain ⟨x, hx'⟩ : ∃ x, x = r1.q.num * r2.q.den := ⟨_, rfl⟩
  obtain ⟨y, hy'⟩ : ∃ y, y = r2.q.num * r1.q.den := ⟨_, rfl⟩
  obtain ⟨m, hm⟩ : ∃ m, m = r1.q.den * r2.q.den := ⟨_, rfl⟩
  rw [← hx', ← hy'] at HD
  rw [← hm] at hcl hm0 ⊢
  have HX' := Lib.hid hx'
  have HY' := Lib.hid hy'
  have HM := Lib.hid hm
  clear hx hy hT hdo hx' hy' hm
  obtain ⟨w3, h3, hB, b0, b1, b2⟩ := boxes3 w 36 36 36 #[.bool r1.neg, .slice A r1.xs.length c, .slice A' r1.ys.length c'] #[.bool r2.neg, .slice D r2.xs.length d, .slice D' r2.ys.length d'] #[.bool false, .slice none 0 0, .slice none 0 0]
  have H3 := Lib.hid h3
  have B0 := Lib.hid b0
  have B1 := Lib.hid b1
  have B2 := Lib.hid b2
  have hs3 := hB.size
  clear h3 b0 b1 b2
  go_enter Tryz.func59, Tryz.ntmps59
  go_wp2_with fail
  rw [← H3.out]
  (((try clear B0c1 B0c2 B0c3 B0c4 B0c5 B0c6); obtain ⟨B0c1, B0c2, B0c3, B0c4, B0c5, B0c6⟩ := Box.three (Hid.out B0)))
  (((try clear B1c1 B1c2 B1c3 B1c4 B1c5 B1c6); obtain ⟨B1c1, B1c2, B1c3, B1c4, B1c5, B1c6⟩ := Box.three (Hid.out B1)))
  (((try clear B2c1 B2c2 B2c3 B2c4 B2c5 B2c6); obtain ⟨B2c1, B2c2, B2c3, B2c4, B2c5, B2c6⟩ := Box.three (Hid.out B2)))
  go_wp2_with fail
  refine (cross_calls _ _ _ r1 r2 K (B := B) (HX.out.below hB) (HY.out.below hB) (HT.out.below hB) hk1 hk2 hK hK1 (by omega)).mono ?_
  rw [← HX'.out, ← HY'.out, ← HM.out]
  rintro e w4 ⟨a, b, c, d, Am, cm, rfl, hra, hrc, hpm, hcm, hB4⟩
  obtain ⟨Aa, ca, ea, -, -⟩ := id hra
  obtain ⟨rfl, rfl⟩ := pair_eq ea
  obtain ⟨Ac, cc, ec, -, -⟩ := id hrc
  obtain ⟨rfl, rfl⟩ := pair_eq ec
  clear ea ec
  have RA := Lib.hid hra
  have RC := Lib.hid hrc
  have PM := Lib.hid hpm
  clear hra hrc hpm
  ((replace B2 := Lib.hid (Box.below (Box.below (Hid.out B2) (by ((repeat (first | assumption | exact Below.refl _ _ | refine Below.drew ?_ | refine below_drewN ?_ _ | refine Below.alloc' ?_ _ | refine Below.setCell ?_ (by first | omega | (dsimp only; omega) | (simp; done) | (simp; omega)) _ | refine Below.alloc ?_ (by first | assumption | exact Nat.le_refl _ | omega | (simp; done) | (simp; omega)) _))))) hB4); (try clear B2c1 B2c2 B2c3 B2c4 B2c5 B2c6); obtain ⟨B2c1, B2c2, B2c3, B2c4, B2c5, B2c6⟩ := Box.three (Hid.out B2); have := Box.lt (Hid.out B2)))
  ((replace hB := Below.on (Below.on hB (by ((repeat (first | assumption | exact Below.refl _ _ | refine Below.drew ?_ | refine below_drewN ?_ _ | refine Below.alloc' ?_ _ | refine Below.setCell ?_ (by first | omega | (dsimp only; omega) | (simp; done) | (simp; omega)) _ | refine Below.alloc ?_ (by first | assumption | exact Nat.le_refl _ | omega | (simp; done) | (simp; omega)) _))))) hB4; have := Below.size hB))
  go_wp2_with fail
  rw [hen, Oper.upon_enter]
  obtain ⟨w5, h5⟩ : ∃ w5, w5 = w4.alloc (.cells #[.bool (decide (x < 0)), .slice Aa (digs x.natAbs).length ca, .bool (decide (y < 0)), .slice Ac (digs y.natAbs).length cc] 70) := ⟨_, rfl⟩
  rw [← h5]
  have hB5 : Below w4.heap.size w4 w5 := by rw [h5]; ((repeat (first | assumption | exact Below.refl _ _ | refine Below.drew ?_ | refine below_drewN ?_ _ | refine Below.alloc' ?_ _ | refine Below.setCell ?_ (by first | omega | (dsimp only; omega) | (simp; done) | (simp; omega)) _ | refine Below.alloc ?_ (by first | assumption | exact Nat.le_refl _ | omega | (simp; done) | (simp; omega)) _)))
  clear h5
  (replace RA := Lib.hid (RInt.below (RInt.below (Hid.out RA) (by ((repeat (first | assumption | exact Below.refl _ _ | refine Below.drew ?_ | refine below_drewN ?_ _ | refine Below.alloc' ?_ _ | refine Below.setCell ?_ (by first | omega | (dsimp only; omega) | (simp; done) | (simp; omega)) _ | refine Below.alloc ?_ (by first | assumption | exact Nat.le_refl _ | omega | (simp; done) | (simp; omega)) _))))) hB5))
  (replace RC := Lib.hid (RInt.below (RInt.below (Hid.out RC) (by ((repeat (first | assumption | exact Below.refl _ _ | refine Below.drew ?_ | refine below_drewN ?_ _ | refine Below.alloc' ?_ _ | refine Below.setCell ?_ (by first | omega | (dsimp only; omega) | (simp; done) | (simp; omega)) _ | refine Below.alloc ?_ (by first | assumption | exact Nat.le_refl _ | omega | (simp; done) | (simp; omega)) _))))) hB5))
  (replace PM := Lib.hid (Parts.below (Parts.below (Hid.out PM) (by ((repeat (first | assumption | exact Below.refl _ _ | refine Below.drew ?_ | refine below_drewN ?_ _ | refine Below.alloc' ?_ _ | refine Below.setCell ?_ (by first | omega | (dsimp only; omega) | (simp; done) | (simp; omega)) _ | refine Below.alloc ?_ (by first | assumption | exact Nat.le_refl _ | omega | (simp; done) | (simp; omega)) _))))) hB5))
  ((replace B2 := Lib.hid (Box.below (Box.below (Hid.out B2) (by ((repeat (first | assumption | exact Below.refl _ _ | refine Below.drew ?_ | refine below_drewN ?_ _ | refine Below.alloc' ?_ _ | refine Below.setCell ?_ (by first | omega | (dsimp only; omega) | (simp; done) | (simp; omega)) _ | refine Below.alloc ?_ (by first | assumption | exact Nat.le_refl _ | omega | (simp; done) | (simp; omega)) _))))) hB5); (try clear B2c1 B2c2 B2c3 B2c4 B2c5 B2c6); obtain ⟨B2c1, B2c2, B2c3, B2c4, B2c5, B2c6⟩ := Box.three (Hid.out B2); have := Box.lt (Hid.out B2)))
  ((replace hB := Below.on (Below.on hB (by ((repeat (first | assumption | exact Below.refl _ _ | refine Below.drew ?_ | refine below_drewN ?_ _ | refine Below.alloc' ?_ _ | refine Below.setCell ?_ (by first | omega | (dsimp only; omega) | (simp; done) | (simp; omega)) _ | refine Below.alloc ?_ (by first | assumption | exact Nat.le_refl _ | omega | (simp; done) | (simp; omega)) _))))) hB5; have := Below.size hB))
  refine Calls.mono (HD.out B w5 _ _ RA.out RC.out hB (by omega)) ?_
  rintro e w6 ⟨v6, b6, rfl, hO6, -, hB6⟩
  have hr6 := hO6.reads B
  obtain ⟨A6, c6, rfl, -, -⟩ := id hr6
  have R6 := Lib.hid hr6
  clear hO6 hr6
  have T6 := Lib.hid (HT.out.below hB)
  (replace T6 := Lib.hid (Tab.below (Tab.below (Hid.out T6) (by ((repeat (first | assumption | exact Below.refl _ _ | refine Below.drew ?_ | refine below_drewN ?_ _ | refine Below.alloc' ?_ _ | refine Below.setCell ?_ (by first | omega | (dsimp only; omega) | (simp; done) | (simp; omega)) _ | refine Below.alloc ?_ (by first | assumption | exact Nat.le_refl _ | omega | (simp; done) | (simp; omega)) _))))) hB6))
  (replace PM := Lib.hid (Parts.below (Parts.below (Hid.out PM) (by ((repeat (first | assumption | exact Below.refl _ _ | refine Below.drew ?_ | refine below_drewN ?_ _ | refine Below.alloc' ?_ _ | refine Below.setCell ?_ (by first | omega | (dsimp only; omega) | (simp; done) | (simp; omega)) _ | refine Below.alloc ?_ (by first | assumption | exact Nat.le_refl _ | omega | (simp; done) | (simp; omega)) _))))) hB6))
  ((replace B2 := Lib.hid (Box.below (Box.below (Hid.out B2) (by ((repeat (first | assumption | exact Below.refl _ _ | refine Below.drew ?_ | refine below_drewN ?_ _ | refine Below.alloc' ?_ _ | refine Below.setCell ?_ (by first | omega | (dsimp only; omega) | (simp; done) | (simp; omega)) _ | refine Below.alloc ?_ (by first | assumption | exact Nat.le_refl _ | omega | (simp; done) | (simp; omega)) _))))) hB6); (try clear B2c1 B2c2 B2c3 B2c4 B2c5 B2c6); obtain ⟨B2c1, B2c2, B2c3, B2c4, B2c5, B2c6⟩ := Box.three (Hid.out B2); have := Box.lt (Hid.out B2)))
  ((replace hB := Below.on (Below.on hB (by ((repeat (first | assumption | exact Below.refl _ _ | refine Below.drew ?_ | refine below_drewN ?_ _ | refine Below.alloc' ?_ _ | refine Below.setCell ?_ (by first | omega | (dsimp only; omega) | (simp; done) | (simp; omega)) _ | refine Below.alloc ?_ (by first | assumption | exact Nat.le_refl _ | omega | (simp; done) | (simp; omega)) _))))) hB6; have := Below.size hB))
  go_wp2_with fail
  refine (lowest_calls _ _ z _ _ m R6.out PM.out hcm hm0 T6.out (by omega)).mono ?_
  rintro e w7 ⟨v7, b7, rfl, hO7, hF7, hB7⟩
  obtain ⟨A7, c7, A7', c7', rfl, -, -, -, -⟩ := id (hO7.reads B)
  have HO7 := Lib.hid hO7
  have HF7 := Lib.hid hF7
  clear hO7 hF7
  ((replace B2 := Lib.hid (Box.below (Box.below (Hid.out B2) (by ((repeat (first | assumption | exact Below.refl _ _ | refine Below.drew ?_ | refine below_drewN ?_ _ | refine Below.alloc' ?_ _ | refine Below.setCell ?_ (by first | omega | (dsimp only; omega) | (simp; done) | (simp; omega)) _ | refine Below.alloc ?_ (by first | assumption | exact Nat.le_refl _ | omega | (simp; done) | (simp; omega)) _))))) hB7); (try clear B2c1 B2c2 B2c3 B2c4 B2c5 B2c6); obtain ⟨B2c1, B2c2, B2c3, B2c4, B2c5, B2c6⟩ := Box.three (Hid.out B2); have := Box.lt (Hid.out B2)))
  have hsz : w.heap.size ≤ w6.heap.size := hB.size
  ((replace hB := Below.on (Below.on hB (by ((repeat (first | assumption | exact Below.refl _ _ | refine Below.drew ?_ | refine below_drewN ?_ _ | refine Below.alloc' ?_ _ | refine Below.setCell ?_ (by first | omega | (dsimp only; omega) | (simp; done) | (simp; omega)) _ | refine Below.alloc ?_ (by first | assumption | exact Nat.le_refl _ | omega | (simp; done) | (simp; omega)) _))))) hB7; have := Below.size hB))
  go_wp2_with fail
  refine bodyPost_ret (v := .agg #[.bool (decide ((mkRat z m).num < 0)), .slice A7 (digs (mkRat z m).num.natAbs).length c7, .slice A7' (digs (mkRat z m).den).length c7']) (result_var rfl (g := w.heap.size + 1 + 1) rfl (load_rat _ _ _ _ _ (B2.out.put3 _ _ _))) rfl ⟨_, b7, rfl, HO7.out.set3 B2.out (by decide) _ _ _, (HF7.out.up (by simp)).low hsz, by ((repeat (first | assumption | exact Below.refl _ _ | refine Below.drew ?_ | refine below_drewN ?_ _ | refine Below.alloc' ?_ _ | refine Below.setCell ?_ (by first | omega | (dsimp only; omega) | (simp; done) | (simp; omega)) _ | refine Below.alloc ?_ (by first | assumption | exact Nat.le_refl _ | omega | (simp; done) | (simp; omega)) _)))⟩

set_option maxRecDepth 100000 in
set_option maxHeartbeats 4000000 in
theorem radd1_does (w0 : World) (x y : Int) (hsz : (digs x.natAbs).length + (digs y.natAbs).length ≤ 17592186044416) : Does w0 60 #[] x y (x + y) := by
  intro B w v1 v2 hx hy hb hBw
  obtain ⟨A, c, rfl, -, -⟩ := id hx
  obtain ⟨A', c', rfl, -, -⟩ := id hy
  have HX := Lib.hid hx
  have HY := Lib.hid hy
  obtain ⟨z, hz⟩ : ∃ z, z = x + y := ⟨_, rfl⟩
  have HZ := Lib.hid hz
  rw [← hz]
  clear hx hy hz hb
  obtain ⟨w3, h3, hB, b0, b1, b2⟩ := boxes3 w 34 34 34 #[.bool (decide (x < 0)), .slice A (digs x.natAbs).length c] #[.bool (decide (y < 0)), .slice A' (digs y.natAbs).length c'] #[.bool false, .slice none 0 0]
  have H3 := Lib.hid h3
  have B2 := Lib.hid b2
  have hs3 := hB.size
  clear h3 b0 b1 b2
  go_enter Tryz.func60, Tryz.ntmps60
  go_wp2_with fail
  rw [← H3.out]
  refine (iadd_calls _ _ _ x y (B := B) (HX.out.below hB) (HY.out.below hB) (by omega) hsz).mono ?_
  rw [← HZ.out]
  rintro e w6 ⟨v6, b6, rfl, hO6, hF6, hB6⟩
  obtain ⟨A6, c6, rfl, -, -⟩ := id (hO6.reads B)
  have HO6 := Lib.hid hO6
  have HF6 := Lib.hid hF6
  clear hO6 hF6
  ((replace B2 := Lib.hid (Box.below (Box.below (Hid.out B2) (by ((repeat (first | assumption | exact Below.refl _ _ | refine Below.drew ?_ | refine below_drewN ?_ _ | refine Below.alloc' ?_ _ | refine Below.setCell ?_ (by first | omega | (dsimp only; omega) | (simp; done) | (simp; omega)) _ | refine Below.alloc ?_ (by first | assumption | exact Nat.le_refl _ | omega | (simp; done) | (simp; omega)) _))))) hB6); (try clear B2c1 B2c2 B2c3 B2c4); obtain ⟨B2c1, B2c2, B2c3, B2c4⟩ := Box.two (Hid.out B2); have := Box.lt (Hid.out B2)))
  ((replace hB := Below.on (Below.on hB (by ((repeat (first | assumption | exact Below.refl _ _ | refine Below.drew ?_ | refine below_drewN ?_ _ | refine Below.alloc' ?_ _ | refine Below.setCell ?_ (by first | omega | (dsimp only; omega) | (simp; done) | (simp; omega)) _ | refine Below.alloc ?_ (by first | assumption | exact Nat.le_refl _ | omega | (simp; done) | (simp; omega)) _))))) hB6; have := Below.size hB))
  go_wp2_with fail
  refine bodyPost_ret (v := .agg #[.bool (decide (z < 0)), .slice A6 (digs z.natAbs).length c6]) (result_var rfl (g := w.heap.size + 1 + 1) rfl (load_int2 _ _ _ _ (B2.out.put2 _ _))) rfl ⟨_, b6, rfl, HO6.out.set2 B2.out (by decide) _ _, (HF6.out.up (by simp)).low hs3, by ((repeat (first | assumption | exact Below.refl _ _ | refine Below.drew ?_ | refine below_drewN ?_ _ | refine Below.alloc' ?_ _ | refine Below.setCell ?_ (by first | omega | (dsimp only; omega) | (simp; done) | (simp; omega)) _ | refine Below.alloc ?_ (by first | assumption | exact Nat.le_refl _ | omega | (simp; done) | (simp; omega)) _)))⟩

set_option maxRecDepth 100000 in
set_option maxHeartbeats 4000000 in
theorem rsub1_does (w0 : World) (x y : Int) (hsz : (digs x.natAbs).length + (digs y.natAbs).length ≤ 17592186044416) : Does w0 66 #[] x y (x - y) := by
  intro B w v1 v2 hx hy hb hBw
  obtain ⟨A, c, rfl, -, -⟩ := id hx
  obtain ⟨A', c', rfl, -, -⟩ := id hy
  have HX := Lib.hid hx
  have HY := Lib.hid hy
  obtain ⟨z, hz⟩ : ∃ z, z = x - y := ⟨_, rfl⟩
  have HZ := Lib.hid hz
  rw [← hz]
  clear hx hy hz hb
  obtain ⟨w3, h3, hB, b0, b1, b2⟩ := boxes3 w 34 34 34 #[.bool (decide (x < 0)), .slice A (digs x.natAbs).length c] #[.bool (decide (y < 0)), .slice A' (digs y.natAbs).length c'] #[.bool false, .slice none 0 0]
  have H3 := Lib.hid h3
  have B2 := Lib.hid b2
  have hs3 := hB.size
  clear h3 b0 b1 b2
  go_enter Tryz.func66, Tryz.ntmps66
  go_wp2_with fail
  rw [← H3.out]
  refine (isub_calls _ _ _ x y (B := B) (HX.out.below hB) (HY.out.below hB) (by omega) hsz).mono ?_
  rw [← HZ.out]
  rintro e w6 ⟨v6, b6, rfl, hO6, hF6, hB6⟩
  obtain ⟨A6, c6, rfl, -, -⟩ := id (hO6.reads B)
  have HO6 := Lib.hid hO6
  have HF6 := Lib.hid hF6
  clear hO6 hF6
  ((replace B2 := Lib.hid (Box.below (Box.below (Hid.out B2) (by ((repeat (first | assumption | exact Below.refl _ _ | refine Below.drew ?_ | refine below_drewN ?_ _ | refine Below.alloc' ?_ _ | refine Below.setCell ?_ (by first | omega | (dsimp only; omega) | (simp; done) | (simp; omega)) _ | refine Below.alloc ?_ (by first | assumption | exact Nat.le_refl _ | omega | (simp; done) | (simp; omega)) _))))) hB6); (try clear B2c1 B2c2 B2c3 B2c4); obtain ⟨B2c1, B2c2, B2c3, B2c4⟩ := Box.two (Hid.out B2); have := Box.lt (Hid.out B2)))
  ((replace hB := Below.on (Below.on hB (by ((repeat (first | assumption | exact Below.refl _ _ | refine Below.drew ?_ | refine below_drewN ?_ _ | refine Below.alloc' ?_ _ | refine Below.setCell ?_ (by first | omega | (dsimp only; omega) | (simp; done) | (simp; omega)) _ | refine Below.alloc ?_ (by first | assumption | exact Nat.le_refl _ | omega | (simp; done) | (simp; omega)) _))))) hB6; have := Below.size hB))
  go_wp2_with fail
  refine bodyPost_ret (v := .agg #[.bool (decide (z < 0)), .slice A6 (digs z.natAbs).length c6]) (result_var rfl (g := w.heap.size + 1 + 1) rfl (load_int2 _ _ _ _ (B2.out.put2 _ _))) rfl ⟨_, b6, rfl, HO6.out.set2 B2.out (by decide) _ _, (HF6.out.up (by simp)).low hs3, by ((repeat (first | assumption | exact Below.refl _ _ | refine Below.drew ?_ | refine below_drewN ?_ _ | refine Below.alloc' ?_ _ | refine Below.setCell ?_ (by first | omega | (dsimp only; omega) | (simp; done) | (simp; omega)) _ | refine Below.alloc ?_ (by first | assumption | exact Nat.le_refl _ | omega | (simp; done) | (simp; omega)) _)))⟩


set_option maxRecDepth 100000 in
set_option maxHeartbeats 4000000 in
theorem radd_calls (w : World) (v1 v2 : Value) (r1 r2 : Raw) (K : Nat) {B : Nat} (hx : RawAt B w v1 r1) (hy : RawAt B w v2 r2) (hT : Tab w) (hk1 : r1.le K) (hk2 : r2.le K) (hK : K ≤ 1099511627776) (hK1 : 1 ≤ K) (hBw : B ≤ w.heap.size) :
    Calls Tryz.prog 26 #[v1, v2] w fun e w' => ∃ v bs, e = .returned v ∧ OwnQ w' v (r1.q + r2.q) bs ∧ Fresh w.heap.size w' bs ∧ Below w.heap.size w w' := by
  obtain ⟨f1, f2, -⟩ := cross_len (Raw.q_le hx.small hk1 hK1) (Raw.q_le hy.small hk2 hK1)
  have hzl : (digs (r1.q.num * r2.q.den + r2.q.num * r1.q.den).natAbs).length ≤ 2 * K + 1 := Nat.le_trans (digs_length_mono (Int.natAbs_add_le _ _)) (digs_len_add (k := 2 * K) (by omega) (by omega))
  have hdo := radd1_does w (r1.q.num * r2.q.den) (r2.q.num * r1.q.den) (by omega)
  obtain ⟨A, c, A', c', rfl, -, -, -, -⟩ := id hx
  obtain ⟨D, d, D', d', rfl, -, -, -, -⟩ := id hy
  obtain ⟨q, hq⟩ : ∃ q, q = r1.q + r2.q := ⟨_, rfl⟩
  have hq' := hq
  rw [Rat.add_def'] at hq'
  rw [← hq]
  have HQ := Lib.hid hq'
  have HX := Lib.hid hx
  have HY := Lib.hid hy
  have HT := Lib.hid hT
  have HD := Lib.hid hdo
  have HZ := Lib.hid hzl
  clear hx hy hT hdo hq hq' hzl f1 f2
  obtain ⟨w3, h3, hB, b0, b1, b2⟩ := boxes3 w 36 36 36 #[.bool r1.neg, .slice A r1.xs.length c, .slice A' r1.ys.length c'] #[.bool r2.neg, .slice D r2.xs.length d, .slice D' r2.ys.length d'] #[.bool false, .slice none 0 0, .slice none 0 0]
  have H3 := Lib.hid h3
  have B0 := Lib.hid b0
  have B1 := Lib.hid b1
  have B2 := Lib.hid b2
  have hs3 := hB.size
  clear h3 b0 b1 b2
  (((try clear B0c1 B0c2 B0c3 B0c4 B0c5 B0c6); obtain ⟨B0c1, B0c2, B0c3, B0c4, B0c5, B0c6⟩ := Box.three (Hid.out B0)))
  (((try clear B1c1 B1c2 B1c3 B1c4 B1c5 B1c6); obtain ⟨B1c1, B1c2, B1c3, B1c4, B1c5, B1c6⟩ := Box.three (Hid.out B1)))
  (((try clear B2c1 B2c2 B2c3 B2c4 B2c5 B2c6); obtain ⟨B2c1, B2c2, B2c3, B2c4, B2c5, B2c6⟩ := Box.three (Hid.out B2)))
  go_enter Tryz.func26, Tryz.ntmps26
  go_wp2_with fail
  rw [← H3.out]
  refine (with_calls _ _ _ _ _ r1 r2 _ K (B := B) (HX.out.below hB) (HY.out.below hB) (HT.out.below hB) hk1 hk2 hK hK1 (by omega) HZ.out (enters_of Tryz.func60 (by kernel_rfl) rfl) (HD.out.later hB)).mono ?_
  rw [← HQ.out]
  rintro e w6 ⟨v6, b6, rfl, hO6, hF6, hB6⟩
  obtain ⟨A6, c6, A6', c6', rfl, -, -, -, -⟩ := id (hO6.reads B)
  have HO6 := Lib.hid hO6
  have HF6 := Lib.hid hF6
  clear hO6 hF6
  ((replace B2 := Lib.hid (Box.below (Box.below (Hid.out B2) (by ((repeat (first | assumption | exact Below.refl _ _ | refine Below.drew ?_ | refine below_drewN ?_ _ | refine Below.alloc' ?_ _ | refine Below.setCell ?_ (by first | omega | (dsimp only; omega) | (simp; done) | (simp; omega)) _ | refine Below.alloc ?_ (by first | assumption | exact Nat.le_refl _ | omega | (simp; done) | (simp; omega)) _))))) hB6); (try clear B2c1 B2c2 B2c3 B2c4 B2c5 B2c6); obtain ⟨B2c1, B2c2, B2c3, B2c4, B2c5, B2c6⟩ := Box.three (Hid.out B2); have := Box.lt (Hid.out B2)))
  ((replace hB := Below.on (Below.on hB (by ((repeat (first | assumption | exact Below.refl _ _ | refine Below.drew ?_ | refine below_drewN ?_ _ | refine Below.alloc' ?_ _ | refine Below.setCell ?_ (by first | omega | (dsimp only; omega) | (simp; done) | (simp; omega)) _ | refine Below.alloc ?_ (by first | assumption | exact Nat.le_refl _ | omega | (simp; done) | (simp; omega)) _))))) hB6; have := Below.size hB))
  go_wp2_with fail
  refine bodyPost_ret (v := .agg #[.bool (decide (q.num < 0)), .slice A6 (digs q.num.natAbs).length c6, .slice A6' (digs q.den).length c6']) (result_var rfl (g := w.heap.size + 1 + 1) rfl (load_rat _ _ _ _ _ (B2.out.put3 _ _ _))) rfl ⟨_, b6, rfl, HO6.out.set3 B2.out (by decide) _ _ _, (HF6.out.up (by simp)).low hs3, by ((repeat (first | assumption | exact Below.refl _ _ | refine Below.drew ?_ | refine below_drewN ?_ _ | refine Below.alloc' ?_ _ | refine Below.setCell ?_ (by first | omega | (dsimp only; omega) | (simp; done) | (simp; omega)) _ | refine Below.alloc ?_ (by first | assumption | exact Nat.le_refl _ | omega | (simp; done) | (simp; omega)) _)))⟩

set_option maxRecDepth 100000 in
set_option maxHeartbeats 4000000 in
theorem rsub_calls (w : World) (v1 v2 : Value) (r1 r2 : Raw) (K : Nat) {B : Nat} (hx : RawAt B w v1 r1) (hy : RawAt B w v2 r2) (hT : Tab w) (hk1 : r1.le K) (hk2 : r2.le K) (hK : K ≤ 1099511627776) (hK1 : 1 ≤ K) (hBw : B ≤ w.heap.size) :
    Calls Tryz.prog 31 #[v1, v2] w fun e w' => ∃ v bs, e = .returned v ∧ OwnQ w' v (r1.q - r2.q) bs ∧ Fresh w.heap.size w' bs ∧ Below w.heap.size w w' := by
  obtain ⟨f1, f2, -⟩ := cross_len (Raw.q_le hx.small hk1 hK1) (Raw.q_le hy.small hk2 hK1)
  have hzl : (digs (r1.q.num * r2.q.den - r2.q.num * r1.q.den).natAbs).length ≤ 2 * K + 1 := Nat.le_trans (digs_length_mono (Int.natAbs_sub_le _ _)) (digs_len_add (k := 2 * K) (by omega) (by omega))
  have hdo := rsub1_does w (r1.q.num * r2.q.den) (r2.q.num * r1.q.den) (by omega)
  obtain ⟨A, c, A', c', rfl, -, -, -, -⟩ := id hx
  obtain ⟨D, d, D', d', rfl, -, -, -, -⟩ := id hy
  obtain ⟨q, hq⟩ : ∃ q, q = r1.q - r2.q := ⟨_, rfl⟩
  have hq' := hq
  rw [Rat.sub_def'] at hq'
  rw [← hq]
  have HQ := Lib.hid hq'
  have HX := Lib.hid hx
  have HY := Lib.hid hy
  have HT := Lib.hid hT
  have HD := Lib.hid hdo
  have HZ := Lib.hid hzl
  clear hx hy hT hdo hq hq' hzl f1 f2
  obtain ⟨w3, h3, hB, b0, b1, b2⟩ := boxes3 w 36 36 36 #[.bool r1.neg, .slice A r1.xs.length c, .slice A' r1.ys.length c'] #[.bool r2.neg, .slice D r2.xs.length d, .slice D' r2.ys.length d'] #[.bool false, .slice none 0 0, .slice none 0 0]
  have H3 := Lib.hid h3
  have B0 := Lib.hid b0
  have B1 := Lib.hid b1
  have B2 := Lib.hid b2
  have hs3 := hB.size
  clear h3 b0 b1 b2
  (((try clear B0c1 B0c2 B0c3 B0c4 B0c5 B0c6); obtain ⟨B0c1, B0c2, B0c3, B0c4, B0c5, B0c6⟩ := Box.three (Hid.out B0)))
  (((try clear B1c1 B1c2 B1c3 B1c4 B1c5 B1c6); obtain ⟨B1c1, B1c2, B1c3, B1c4, B1c5, B1c6⟩ := Box.three (Hid.out B1)))
  (((try clear B2c1 B2c2 B2c3 B2c4 B2c5 B2c6); obtain ⟨B2c1, B2c2, B2c3, B2c4, B2c5, B2c6⟩ := Box.three (Hid.out B2)))
  go_enter Tryz.func31, Tryz.ntmps31
  go_wp2_with fail
  rw [← H3.out]
  refine (with_calls _ _ _ _ _ r1 r2 _ K (B := B) (HX.out.below hB) (HY.out.below hB) (HT.out.below hB) hk1 hk2 hK hK1 (by omega) HZ.out (enters_of Tryz.func66 (by kernel_rfl) rfl) (HD.out.later hB)).mono ?_
  rw [← HQ.out]
  rintro e w6 ⟨v6, b6, rfl, hO6, hF6, hB6⟩
  obtain ⟨A6, c6, A6', c6', rfl, -, -, -, -⟩ := id (hO6.reads B)
  have HO6 := Lib.hid hO6
  have HF6 := Lib.hid hF6
  clear hO6 hF6
  ((replace B2 := Lib.hid (Box.below (Box.below (Hid.out B2) (by ((repeat (first | assumption | exact Below.refl _ _ | refine Below.drew ?_ | refine below_drewN ?_ _ | refine Below.alloc' ?_ _ | refine Below.setCell ?_ (by first | omega | (dsimp only; omega) | (simp; done) | (simp; omega)) _ | refine Below.alloc ?_ (by first | assumption | exact Nat.le_refl _ | omega | (simp; done) | (simp; omega)) _))))) hB6); (try clear B2c1 B2c2 B2c3 B2c4 B2c5 B2c6); obtain ⟨B2c1, B2c2, B2c3, B2c4, B2c5, B2c6⟩ := Box.three (Hid.out B2); have := Box.lt (Hid.out B2)))
  ((replace hB := Below.on (Below.on hB (by ((repeat (first | assumption | exact Below.refl _ _ | refine Below.drew ?_ | refine below_drewN ?_ _ | refine Below.alloc' ?_ _ | refine Below.setCell ?_ (by first | omega | (dsimp only; omega) | (simp; done) | (simp; omega)) _ | refine Below.alloc ?_ (by first | assumption | exact Nat.le_refl _ | omega | (simp; done) | (simp; omega)) _))))) hB6; have := Below.size hB))
  go_wp2_with fail
  refine bodyPost_ret (v := .agg #[.bool (decide (q.num < 0)), .slice A6 (digs q.num.natAbs).length c6, .slice A6' (digs q.den).length c6']) (result_var rfl (g := w.heap.size + 1 + 1) rfl (load_rat _ _ _ _ _ (B2.out.put3 _ _ _))) rfl ⟨_, b6, rfl, HO6.out.set3 B2.out (by decide) _ _ _, (HF6.out.up (by simp)).low hs3, by ((repeat (first | assumption | exact Below.refl _ _ | refine Below.drew ?_ | refine below_drewN ?_ _ | refine Below.alloc' ?_ _ | refine Below.setCell ?_ (by first | omega | (dsimp only; omega) | (simp; done) | (simp; omega)) _ | refine Below.alloc ?_ (by first | assumption | exact Nat.le_refl _ | omega | (simp; done) | (simp; omega)) _)))⟩

end Go.Proofs.YthofbikhomnjpaaGreatDoor
