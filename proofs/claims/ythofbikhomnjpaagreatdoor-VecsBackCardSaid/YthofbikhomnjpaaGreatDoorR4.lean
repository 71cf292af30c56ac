import Derived.Test.YthofbikhomnjpaaGreatDoorR3
namespace Go.Proofs.YthofbikhomnjpaaGreatDoor
open Go.RowKit
set_option linter.unusedVariables false
set_option linter.unusedSimpArgs false

/-- Mul's function: the product of the numbers above of both that it holds. -/
theorem rmul1_does (w0 : World) (g0 g1 : Nat) (a1 a2 a3 b1 b2 b3 : Value) (n1 n2 x y : Int) {B0 : Nat} (h0 : Box w0 g0 36 #[a1, a2, a3]) (h1 : Box w0 g1 36 #[b1, b2, b3]) (hn1 : RInt B0 w0 (.agg #[a1, a2]) n1) (hn2 : RInt B0 w0 (.agg #[b1, b2]) n2) (hB0 : B0 ≤ w0.heap.size)
    (hsz : (digs n1.natAbs).length + (digs n2.natAbs).length ≤ 17592186044416) : Does w0 63 #[.pointer (some ⟨g0, 0, none⟩), .pointer (some ⟨g1, 0, none⟩)] x y (n1 * n2) := by
  intro B w v1 v2 hx hy hb hBw
  obtain ⟨A, c, rfl, -, -⟩ := id hx
  obtain ⟨A', c', rfl, -, -⟩ := id hy
  obtain ⟨E, e, e1, -, -⟩ := id hn1
  obtain ⟨rfl, rfl⟩ := pair_eq e1
  obtain ⟨E', e', e2, -, -⟩ := id hn2
  obtain ⟨rfl, rfl⟩ := pair_eq e2
  have G0 := Lib.hid (h0.below hb)
  have G1 := Lib.hid (h1.below hb)
  have N1 := Lib.hid (hn1.below hb)
  have N2 := Lib.hid (hn2.below hb)
  have hs0 := hb.size
  obtain ⟨z, hz⟩ : ∃ z, z = n1 * n2 := ⟨_, rfl⟩
  have HZ := Lib.hid hz
  rw [← hz]
  clear hx hy hz h0 h1 hn1 hn2 e1 e2 hb
  obtain ⟨w3, h3, hB, b0, b1, b2⟩ := boxes3 w 34 34 34 #[.bool (decide (x < 0)), .slice A (digs x.natAbs).length c] #[.bool (decide (y < 0)), .slice A' (digs y.natAbs).length c'] #[.bool false, .slice none 0 0]
  have H3 := Lib.hid h3
  have B2 := Lib.hid b2
  have hs3 := hB.size
  clear h3 b0 b1 b2
  ((replace G0 := Lib.hid (Box.below (Box.below (Hid.out G0) (by ((repeat (first | assumption | exact Below.refl _ _ | refine Below.drew ?_ | refine below_drewN ?_ _ | refine Below.alloc' ?_ _ | refine Below.setCell ?_ (by first | omega | (dsimp only; omega) | (simp; done) | (simp; omega)) _ | refine Below.alloc ?_ (by first | assumption | exact Nat.le_refl _ | omega | (simp; done) | (simp; omega)) _))))) hB); (try clear G0c1 G0c2 G0c3 G0c4 G0c5 G0c6); obtain ⟨G0c1, G0c2, G0c3, G0c4, G0c5, G0c6⟩ := Box.three (Hid.out G0); have := Box.lt (Hid.out G0)))
  ((replace G1 := Lib.hid (Box.below (Box.below (Hid.out G1) (by ((repeat (first | assumption | exact Below.refl _ _ | refine Below.drew ?_ | refine below_drewN ?_ _ | refine Below.alloc' ?_ _ | refine Below.setCell ?_ (by first | omega | (dsimp only; omega) | (simp; done) | (simp; omega)) _ | refine Below.alloc ?_ (by first | assumption | exact Nat.le_refl _ | omega | (simp; done) | (simp; omega)) _))))) hB); (try clear G1c1 G1c2 G1c3 G1c4 G1c5 G1c6); obtain ⟨G1c1, G1c2, G1c3, G1c4, G1c5, G1c6⟩ := Box.three (Hid.out G1); have := Box.lt (Hid.out G1)))
  have k1 := G0c1
  have k2 := G0c2
  have k3 := G1c1
  have k4 := G1c2
  rw [H3.out] at k1 k2 k3 k4
  go_enter Tryz.func63, Tryz.ntmps63
  go_wp2_with fail
  rw [← H3.out]
  clear k1 k2 k3 k4
  refine (imul_calls _ _ _ n1 n2 (B := B0) (N1.out.below hB) (N2.out.below hB) (by omega) hsz).mono ?_
  rw [← HZ.out]
  rintro e w6 ⟨v6, b6, rfl, hO6, hF6, hB6⟩
  obtain ⟨A6, c6, rfl, -, -⟩ := id (hO6.reads B)
  have HO6 := Lib.hid hO6
  have HF6 := Lib.hid hF6
  clear hO6 hF6
  ((replace B2 := Lib.hid (Box.below (Box.below (Hid.out B2) (by ((repeat (first | assumption | exact Below.refl _ _ | refine Below.drew ?_ | refine below_drewN ?_ _ | refine Below.alloc' ?_ _ | refine Below.setCell ?_ (by first | omega | (dsimp only; omega) | (simp; done) | (simp; omega)) _ | refine Below.alloc ?_ (by first | assumption | exact Nat.le_refl _ | omega | (simp; done) | (simp; omega)) _))))) hB6); (try clear B2c1 B2c2 B2c3 B2c4); obtain ⟨B2c1, B2c2, B2c3, B2c4⟩ := Box.two (Hid.out B2); have := Box.lt (Hid.out B2)))
  ((replace hB := Below.on (Below.on hB (by ((repeat (first | assumption | exact Below.refl _ _ | refine Below.drew ?_ | refine below_drewN ?_ _ | refine Below.alloc' ?_ _ | refine Below.setCell ?_ (by first | omega | (dsimp only; omega) | (simp; done) | (simp; omega)) _ | refine Below.alloc ?_ (by first | assumption | exact Nat.le_refl _ | omega | (simp; done) | (simp; omega)) _))))) hB6; have := Below.size hB))
  go_wp2_with fail
  refine bodyPost_ret (v := .agg #[.bool (decide (z < 0)), .slice A6 (digs z.natAbs).length c6]) (result_var rfl (g := w.heap.size + 1 + 1) rfl (load_int2 _ _ _ _ (B2.out.put2 _ _))) rfl ⟨_, b6, rfl, HO6.out.set2 B2.out (by decide) _ _, (HF6.out.up (by simp)).low hs3, by ((repeat (first | assumption | exact Below.refl _ _ | refine Below.drew ?_ | refine below_drewN ?_ _ | refine Below.alloc' ?_ _ | refine Below.setCell ?_ (by first | omega | (dsimp only; omega) | (simp; done) | (simp; omega)) _ | refine Below.alloc ?_ (by first | assumption | exact Nat.le_refl _ | omega | (simp; done) | (simp; omega)) _)))⟩

set_option maxRecDepth 100000 in
set_option maxHeartbeats 4000000 in
theorem rmul_calls (w : World) (v1 v2 : Value) (r1 r2 : Raw) (K : Nat) {B : Nat} (hx : RawAt B w v1 r1) (hy : RawAt B w v2 r2) (hT : Tab w) (hk1 : r1.le K) (hk2 : r2.le K) (hK : K ≤ 1099511627776) (hK1 : 1 ≤ K) (hBw : B ≤ w.heap.size) :
    Calls Tryz.prog 27 #[v1, v2] w fun e w' => ∃ v bs, e = .returned v ∧ OwnQ w' v (r1.q * r2.q) bs ∧ Fresh w.heap.size w' bs ∧ Below w.heap.size w w' := by
  have hf1 := Raw.q_le hx.small hk1 hK1
  have hf2 := Raw.q_le hy.small hk2 hK1
  have hl1 := hk1.1
  have hl2 := hk1.2
  have hl3 := hk2.1
  have hl4 := hk2.2
  obtain ⟨A, c, A', c', rfl, -, -, -, -⟩ := id hx
  obtain ⟨D, d, D', d', rfl, -, -, -, -⟩ := id hy
  obtain ⟨q1, hq1⟩ : ∃ q, q = r1.q := ⟨_, rfl⟩
  obtain ⟨q2, hq2⟩ : ∃ q, q = r2.q := ⟨_, rfl⟩
  rw [← hq1] at hf1 ⊢
  rw [← hq2] at hf2 ⊢
  have f1 := hf1.1
  have f2 := hf2.1
  have hzl : (digs (q1.num * q2.num).natAbs).length ≤ 2 * K + 1 := by
    rw [Int.natAbs_mul]
    have := digs_len_mul q1.num.natAbs q2.num.natAbs
    omega
  obtain ⟨q, hq⟩ : ∃ q, q = q1 * q2 := ⟨_, rfl⟩
  have hq' := hq
  rw [Rat.mul_def'] at hq'
  rw [← hq]
  have HQ := Lib.hid hq'
  have HQ1 := Lib.hid hq1
  have HQ2 := Lib.hid hq2
  have HX := Lib.hid hx
  have HY := Lib.hid hy
  have HT := Lib.hid hT
  have HZ := Lib.hid hzl
  have HF1 := Lib.hid hf1
  have HF2 := Lib.hid hf2
  clear hx hy hT hq1 hq2 hq hq' hzl hf1 hf2
  obtain ⟨w3, h3, hB, b0, b1, b2⟩ := boxes3 w 36 36 36 #[.bool r1.neg, .slice A r1.xs.length c, .slice A' r1.ys.length c'] #[.bool r2.neg, .slice D r2.xs.length d, .slice D' r2.ys.length d'] #[.bool false, .slice none 0 0, .slice none 0 0]
  have H3 := Lib.hid h3
  have B0 := Lib.hid b0
  have B1 := Lib.hid b1
  have B2 := Lib.hid b2
  have hs3 := hB.size
  clear h3 b0 b1 b2
  go_enter Tryz.func27, Tryz.ntmps27
  go_wp2_with fail
  rw [← H3.out]
  (((try clear B0c1 B0c2 B0c3 B0c4 B0c5 B0c6); obtain ⟨B0c1, B0c2, B0c3, B0c4, B0c5, B0c6⟩ := Box.three (Hid.out B0)))
  (((try clear B1c1 B1c2 B1c3 B1c4 B1c5 B1c6); obtain ⟨B1c1, B1c2, B1c3, B1c4, B1c5, B1c6⟩ := Box.three (Hid.out B1)))
  (((try clear B2c1 B2c2 B2c3 B2c4 B2c5 B2c6); obtain ⟨B2c1, B2c2, B2c3, B2c4, B2c5, B2c6⟩ := Box.three (Hid.out B2)))
  go_cut [4] from 5 to 8 (fun p4 wx => ∃ A1 c1 A1' c1' A2 c2 A2' c2', p4 = .pointer (some ⟨w.heap.size + 1 + 1, 0, none⟩) ∧
    Box wx w.heap.size 36 #[.bool (decide (q1.num < 0)), .slice A1 (digs q1.num.natAbs).length c1, .slice A1' (digs q1.den).length c1'] ∧
    Box wx (w.heap.size + 1) 36 #[.bool (decide (q2.num < 0)), .slice A2 (digs q2.num.natAbs).length c2, .slice A2' (digs q2.den).length c2'] ∧
    Box wx (w.heap.size + 1 + 1) 36 #[.bool false, .slice none 0 0, .slice none 0 0] ∧
    RInt B wx (.agg #[.bool (decide (q1.num < 0)), .slice A1 (digs q1.num.natAbs).length c1]) q1.num ∧ (digs q1.den).length ≤ c1' ∧ PartsAt B wx A1' (digs q1.den) ∧
    RInt B wx (.agg #[.bool (decide (q2.num < 0)), .slice A2 (digs q2.num.natAbs).length c2]) q2.num ∧ (digs q2.den).length ≤ c2' ∧ PartsAt B wx A2' (digs q2.den) ∧ Below w.heap.size w wx)
  case first =>
    go_region_with (first
      | (go_at_call 62; ((with_reducible refine Calls.mono (rof_calls _ _ r1 (B := B) (RawAt.below (HX.out) (by ((repeat (first | assumption | exact Below.refl _ _ | refine Below.drew ?_ | refine below_drewN ?_ _ | refine Below.alloc' ?_ _ | refine Below.setCell ?_ (by first | omega | (dsimp only; omega) | (simp; done) | (simp; omega)) _ | refine Below.alloc ?_ (by first | assumption | exact Nat.le_refl _ | omega | (simp; done) | (simp; omega)) _))))) (Tab.below HT.out (by ((repeat (first | assumption | exact Below.refl _ _ | refine Below.drew ?_ | refine below_drewN ?_ _ | refine Below.alloc' ?_ _ | refine Below.setCell ?_ (by first | omega | (dsimp only; omega) | (simp; done) | (simp; omega)) _ | refine Below.alloc ?_ (by first | assumption | exact Nat.le_refl _ | omega | (simp; done) | (simp; omega)) _))))) (by omega) (by first | omega | (simp; omega))) ?_); rw [← HQ1.out]; rintro e w4 ⟨v4, rfl, hr4, hB4⟩; obtain ⟨A4, c4, A4', c4', rfl, ri4, hc4, rd4⟩ := RawAt.open hr4; have RI4 := Lib.hid ri4; have RD4 := Lib.hid rd4; clear hr4 ri4 rd4; ((replace B0 := Lib.hid (Box.below (Box.below (Hid.out B0) (by ((repeat (first | assumption | exact Below.refl _ _ | refine Below.drew ?_ | refine below_drewN ?_ _ | refine Below.alloc' ?_ _ | refine Below.setCell ?_ (by first | omega | (dsimp only; omega) | (simp; done) | (simp; omega)) _ | refine Below.alloc ?_ (by first | assumption | exact Nat.le_refl _ | omega | (simp; done) | (simp; omega)) _))))) hB4); (try clear B0c1 B0c2 B0c3 B0c4 B0c5 B0c6); obtain ⟨B0c1, B0c2, B0c3, B0c4, B0c5, B0c6⟩ := Box.three (Hid.out B0); have := Box.lt (Hid.out B0))); ((replace B1 := Lib.hid (Box.below (Box.below (Hid.out B1) (by ((repeat (first | assumption | exact Below.refl _ _ | refine Below.drew ?_ | refine below_drewN ?_ _ | refine Below.alloc' ?_ _ | refine Below.setCell ?_ (by first | omega | (dsimp only; omega) | (simp; done) | (simp; omega)) _ | refine Below.alloc ?_ (by first | assumption | exact Nat.le_refl _ | omega | (simp; done) | (simp; omega)) _))))) hB4); (try clear B1c1 B1c2 B1c3 B1c4 B1c5 B1c6); obtain ⟨B1c1, B1c2, B1c3, B1c4, B1c5, B1c6⟩ := Box.three (Hid.out B1); have := Box.lt (Hid.out B1))); ((replace B2 := Lib.hid (Box.below (Box.below (Hid.out B2) (by ((repeat (first | assumption | exact Below.refl _ _ | refine Below.drew ?_ | refine below_drewN ?_ _ | refine Below.alloc' ?_ _ | refine Below.setCell ?_ (by first | omega | (dsimp only; omega) | (simp; done) | (simp; omega)) _ | refine Below.alloc ?_ (by first | assumption | exact Nat.le_refl _ | omega | (simp; done) | (simp; omega)) _))))) hB4); (try clear B2c1 B2c2 B2c3 B2c4 B2c5 B2c6); obtain ⟨B2c1, B2c2, B2c3, B2c4, B2c5, B2c6⟩ := Box.three (Hid.out B2); have := Box.lt (Hid.out B2))); ((replace hB := Below.on (Below.on hB (by ((repeat (first | assumption | exact Below.refl _ _ | refine Below.drew ?_ | refine below_drewN ?_ _ | refine Below.alloc' ?_ _ | refine Below.setCell ?_ (by first | omega | (dsimp only; omega) | (simp; done) | (simp; omega)) _ | refine Below.alloc ?_ (by first | assumption | exact Nat.le_refl _ | omega | (simp; done) | (simp; omega)) _))))) hB4; have := Below.size hB))))
      | (go_at_call 62; ((with_reducible refine Calls.mono (rof_calls _ _ r2 (B := B) (RawAt.below (HY.out) (by ((repeat (first | assumption | exact Below.refl _ _ | refine Below.drew ?_ | refine below_drewN ?_ _ | refine Below.alloc' ?_ _ | refine Below.setCell ?_ (by first | omega | (dsimp only; omega) | (simp; done) | (simp; omega)) _ | refine Below.alloc ?_ (by first | assumption | exact Nat.le_refl _ | omega | (simp; done) | (simp; omega)) _))))) (Tab.below HT.out (by ((repeat (first | assumption | exact Below.refl _ _ | refine Below.drew ?_ | refine below_drewN ?_ _ | refine Below.alloc' ?_ _ | refine Below.setCell ?_ (by first | omega | (dsimp only; omega) | (simp; done) | (simp; omega)) _ | refine Below.alloc ?_ (by first | assumption | exact Nat.le_refl _ | omega | (simp; done) | (simp; omega)) _))))) (by omega) (by first | omega | (simp; omega))) ?_); rw [← HQ2.out]; rintro e w5 ⟨v5, rfl, hr5, hB5⟩; obtain ⟨A5, c5, A5', c5', rfl, ri5, hc5, rd5⟩ := RawAt.open hr5; have RI5 := Lib.hid ri5; have RD5 := Lib.hid rd5; clear hr5 ri5 rd5; ((replace B0 := Lib.hid (Box.below (Box.below (Hid.out B0) (by ((repeat (first | assumption | exact Below.refl _ _ | refine Below.drew ?_ | refine below_drewN ?_ _ | refine Below.alloc' ?_ _ | refine Below.setCell ?_ (by first | omega | (dsimp only; omega) | (simp; done) | (simp; omega)) _ | refine Below.alloc ?_ (by first | assumption | exact Nat.le_refl _ | omega | (simp; done) | (simp; omega)) _))))) hB5); (try clear B0c1 B0c2 B0c3 B0c4 B0c5 B0c6); obtain ⟨B0c1, B0c2, B0c3, B0c4, B0c5, B0c6⟩ := Box.three (Hid.out B0); have := Box.lt (Hid.out B0))); ((replace B1 := Lib.hid (Box.below (Box.below (Hid.out B1) (by ((repeat (first | assumption | exact Below.refl _ _ | refine Below.drew ?_ | refine below_drewN ?_ _ | refine Below.alloc' ?_ _ | refine Below.setCell ?_ (by first | omega | (dsimp only; omega) | (simp; done) | (simp; omega)) _ | refine Below.alloc ?_ (by first | assumption | exact Nat.le_refl _ | omega | (simp; done) | (simp; omega)) _))))) hB5); (try clear B1c1 B1c2 B1c3 B1c4 B1c5 B1c6); obtain ⟨B1c1, B1c2, B1c3, B1c4, B1c5, B1c6⟩ := Box.three (Hid.out B1); have := Box.lt (Hid.out B1))); ((replace B2 := Lib.hid (Box.below (Box.below (Hid.out B2) (by ((repeat (first | assumption | exact Below.refl _ _ | refine Below.drew ?_ | refine below_drewN ?_ _ | refine Below.alloc' ?_ _ | refine Below.setCell ?_ (by first | omega | (dsimp only; omega) | (simp; done) | (simp; omega)) _ | refine Below.alloc ?_ (by first | assumption | exact Nat.le_refl _ | omega | (simp; done) | (simp; omega)) _))))) hB5); (try clear B2c1 B2c2 B2c3 B2c4 B2c5 B2c6); obtain ⟨B2c1, B2c2, B2c3, B2c4, B2c5, B2c6⟩ := Box.three (Hid.out B2); have := Box.lt (Hid.out B2))); (replace RI4 := Lib.hid (RInt.below (RInt.below (Hid.out RI4) (by ((repeat (first | assumption | exact Below.refl _ _ | refine Below.drew ?_ | refine below_drewN ?_ _ | refine Below.alloc' ?_ _ | refine Below.setCell ?_ (by first | omega | (dsimp only; omega) | (simp; done) | (simp; omega)) _ | refine Below.alloc ?_ (by first | assumption | exact Nat.le_refl _ | omega | (simp; done) | (simp; omega)) _))))) hB5)); (replace RD4 := Lib.hid (PartsAt.below (PartsAt.below (Hid.out RD4) (by ((repeat (first | assumption | exact Below.refl _ _ | refine Below.drew ?_ | refine below_drewN ?_ _ | refine Below.alloc' ?_ _ | refine Below.setCell ?_ (by first | omega | (dsimp only; omega) | (simp; done) | (simp; omega)) _ | refine Below.alloc ?_ (by first | assumption | exact Nat.le_refl _ | omega | (simp; done) | (simp; omega)) _))))) hB5)); ((replace hB := Below.on (Below.on hB (by ((repeat (first | assumption | exact Below.refl _ _ | refine Below.drew ?_ | refine below_drewN ?_ _ | refine Below.alloc' ?_ _ | refine Below.setCell ?_ (by first | omega | (dsimp only; omega) | (simp; done) | (simp; omega)) _ | refine Below.alloc ?_ (by first | assumption | exact Nat.le_refl _ | omega | (simp; done) | (simp; omega)) _))))) hB5; have := Below.size hB)))))
    all_goals
      go_wp2_with fail
      go_meet
      obtain ⟨Z0, Z1, Z2, ZR, ZP, ZB⟩ := two_rats (B := B) (.bool (decide (q1.num < 0))) (.slice A4 (digs q1.num.natAbs).length c4) (.slice A4' (digs q1.den).length c4') (.bool (decide (q2.num < 0))) (.slice A5 (digs q2.num.natAbs).length c5) (.slice A5' (digs q2.den).length c5') B0.out B1.out B2.out (by decide) (by decide) (by omega) (by omega) (by omega) (by omega) (by omega) (by omega) (by omega) hB
      exact ⟨A4, c4, A4', c4', A5, c5, A5', c5', rfl, Z0, Z1, Z2, ZR _ _ RI4.out, hc4, ZP _ _ RD4.out, ZR _ _ RI5.out, hc5, ZP _ _ RD5.out, ZB⟩
  case rest =>
    obtain ⟨A1, c1, A1', c1', A2, c2, A2', c2', rfl, x0, x1, x2, n1, hc1, d1, n2, hc2, d2, hb⟩ := hcut
    clear B0 B1 B2
    have B0 := Lib.hid x0
    have B1 := Lib.hid x1
    have B2 := Lib.hid x2
    have hlt := x2.lt
    have hc1n : (digs q1.num.natAbs).length ≤ c1 := by obtain ⟨A, c, e, h, _⟩ := n1; cases e; exact h
    have hc2n : (digs q2.num.natAbs).length ≤ c2 := by obtain ⟨A, c, e, h, _⟩ := n2; cases e; exact h
    have ra1 : RawAt B wc (.agg #[.bool (decide (q1.num < 0)), .slice A1 (digs q1.num.natAbs).length c1, .slice A1' (digs q1.den).length c1']) (rawOf q1) := ⟨_, _, _, _, rfl, hc1n, hc1, (by obtain ⟨A, c, e, _, h⟩ := n1; cases e; exact h), d1⟩
    have ra2 : RawAt B wc (.agg #[.bool (decide (q2.num < 0)), .slice A2 (digs q2.num.natAbs).length c2, .slice A2' (digs q2.den).length c2']) (rawOf q2) := ⟨_, _, _, _, rfl, hc2n, hc2, (by obtain ⟨A, c, e, _, h⟩ := n2; cases e; exact h), d2⟩
    have RA1 := Lib.hid ra1
    have RA2 := Lib.hid ra2
    have hsb := hb.size
    have hdo := rmul1_does wc w.heap.size (w.heap.size + 1) _ _ _ _ _ _ q1.num q2.num (q1.num * q2.den) (q2.num * q1.den) x0 x1 n1 n2 (by omega) (by omega)
    have HD := Lib.hid hdo
    clear x0 x1 x2 n1 n2 d1 d2 ra1 ra2 hdo
    (((try clear B0c1 B0c2 B0c3 B0c4 B0c5 B0c6); obtain ⟨B0c1, B0c2, B0c3, B0c4, B0c5, B0c6⟩ := Box.three (Hid.out B0)))
    (((try clear B1c1 B1c2 B1c3 B1c4 B1c5 B1c6); obtain ⟨B1c1, B1c2, B1c3, B1c4, B1c5, B1c6⟩ := Box.three (Hid.out B1)))
    (((try clear B2c1 B2c2 B2c3 B2c4 B2c5 B2c6); obtain ⟨B2c1, B2c2, B2c3, B2c4, B2c5, B2c6⟩ := Box.three (Hid.out B2)))
    go_wp2_with fail
    have hw := with_calls wc 63 #[.pointer (some ⟨w.heap.size, 0, none⟩), .pointer (some ⟨w.heap.size + 1, 0, none⟩)] _ _ (rawOf q1) (rawOf q2) (q1.num * q2.num) K (B := B) RA1.out RA2.out (HT.out.below hb) HF1.out HF2.out hK hK1 (by omega) HZ.out (enters_of Tryz.func63 (by kernel_rfl) rfl) (by rw [rawOf_q, rawOf_q]; exact HD.out)
    rw [rawOf_q, rawOf_q, ← HQ.out] at hw
    refine hw.mono ?_
    clear hw
    rintro e w6 ⟨v6, b6, rfl, hO6, hF6, hB6⟩
    obtain ⟨A6, c6, A6', c6', rfl, -, -, -, -⟩ := id (hO6.reads B)
    have HO6 := Lib.hid hO6
    have HF6 := Lib.hid hF6
    clear hO6 hF6
    ((replace B2 := Lib.hid (Box.below (Box.below (Hid.out B2) (by ((repeat (first | assumption | exact Below.refl _ _ | refine Below.drew ?_ | refine below_drewN ?_ _ | refine Below.alloc' ?_ _ | refine Below.setCell ?_ (by first | omega | (dsimp only; omega) | (simp; done) | (simp; omega)) _ | refine Below.alloc ?_ (by first | assumption | exact Nat.le_refl _ | omega | (simp; done) | (simp; omega)) _))))) hB6); (try clear B2c1 B2c2 B2c3 B2c4 B2c5 B2c6); obtain ⟨B2c1, B2c2, B2c3, B2c4, B2c5, B2c6⟩ := Box.three (Hid.out B2); have := Box.lt (Hid.out B2)))
    ((replace hb := Below.on (Below.on hb (by ((repeat (first | assumption | exact Below.refl _ _ | refine Below.drew ?_ | refine below_drewN ?_ _ | refine Below.alloc' ?_ _ | refine Below.setCell ?_ (by first | omega | (dsimp only; omega) | (simp; done) | (simp; omega)) _ | refine Below.alloc ?_ (by first | assumption | exact Nat.le_refl _ | omega | (simp; done) | (simp; omega)) _))))) hB6; have := Below.size hb))
    go_wp2_with fail
    refine bodyPost_ret (v := .agg #[.bool (decide (q.num < 0)), .slice A6 (digs q.num.natAbs).length c6, .slice A6' (digs q.den).length c6']) (result_var rfl (g := w.heap.size + 1 + 1) rfl (load_rat _ _ _ _ _ (B2.out.put3 _ _ _))) rfl ⟨_, b6, rfl, HO6.out.set3 B2.out (by decide) _ _ _, (HF6.out.up (by simp)).low hsb, by ((repeat (first | assumption | exact Below.refl _ _ | refine Below.drew ?_ | refine below_drewN ?_ _ | refine Below.alloc' ?_ _ | refine Below.setCell ?_ (by first | omega | (dsimp only; omega) | (simp; done) | (simp; omega)) _ | refine Below.alloc ?_ (by first | assumption | exact Nat.le_refl _ | omega | (simp; done) | (simp; omega)) _)))⟩

end Go.Proofs.YthofbikhomnjpaaGreatDoor
