import Derived.Test.YthofbikhomnjpaaGreatDoorI5
namespace Go.Proofs.YthofbikhomnjpaaGreatDoor
open Go.RowKit
set_option linter.unusedVariables false
set_option linter.unusedSimpArgs false
attribute [local go_sem] max2_is max_is min2_is min_is

theorem isign_calls (w : World) (v : Value) (z : Int) {B : Nat} (hx : RInt B w v z) (hBw : B ≤ w.heap.size) :
    Calls Tryz.prog 65 #[v] w fun e w' => e = .returned (.int .i64 (sgn z)) ∧ Below w.heap.size w w' := by
  obtain ⟨A, c, rfl, -, -⟩ := id hx
  have HX := Lib.hid hx
  clear hx
  obtain ⟨w3, h3, hB, b0⟩ := boxes1 w 34 #[.bool (decide (z < 0)), .slice A (digs z.natAbs).length c]
  have H3 := Lib.hid h3
  have B0 := Lib.hid b0
  clear h3 b0
  go_enter Tryz.func65, Tryz.ntmps65
  go_wp2_with fail
  rw [← H3.out]
  refine (iof_reads _ _ z (B := B) (HX.out.below hB) (Below.le hB hBw)).mono ?_
  rintro e w4 ⟨v4, rfl, hp4, hB4⟩
  have HP4 := Lib.hid hp4
  clear hp4
  ((replace B0 := Lib.hid (Box.below (Box.below (Hid.out B0) (by ((repeat (first | assumption | exact Below.refl _ _ | refine Below.drew ?_ | refine below_drewN ?_ _ | refine Below.alloc' ?_ _ | refine Below.setCell ?_ (by first | omega | (dsimp only; omega) | (simp; done) | (simp; omega)) _ | refine Below.alloc ?_ (by first | assumption | exact Nat.le_refl _ | omega | (simp; done) | (simp; omega)) _))))) hB4); (try clear B0c1 B0c2 B0c3 B0c4); obtain ⟨B0c1, B0c2, B0c3, B0c4⟩ := Box.two (Hid.out B0); have := Box.lt (Hid.out B0)))
  ((replace hB := Below.on (Below.on hB (by ((repeat (first | assumption | exact Below.refl _ _ | refine Below.drew ?_ | refine below_drewN ?_ _ | refine Below.alloc' ?_ _ | refine Below.setCell ?_ (by first | omega | (dsimp only; omega) | (simp; done) | (simp; omega)) _ | refine Below.alloc ?_ (by first | assumption | exact Nat.le_refl _ | omega | (simp; done) | (simp; omega)) _))))) hB4; have := Below.size hB))
  go_wp2_with fail
  refine (isgn_calls _ _ z HP4.out).mono ?_
  rintro e w5 ⟨rfl, hB5⟩
  ((replace hB := Below.on (Below.on hB (by ((repeat (first | assumption | exact Below.refl _ _ | refine Below.drew ?_ | refine below_drewN ?_ _ | refine Below.alloc' ?_ _ | refine Below.setCell ?_ (by first | omega | (dsimp only; omega) | (simp; done) | (simp; omega)) _ | refine Below.alloc ?_ (by first | assumption | exact Nat.le_refl _ | omega | (simp; done) | (simp; omega)) _))))) hB5; have := Below.size hB))
  go_wp2_with fail
  go_ret
  exact ⟨rfl, hB⟩

theorem ineg_calls (w : World) (v : Value) (z : Int) {B : Nat} (hx : RInt B w v z) (hBw : B ≤ w.heap.size) :
    Calls Tryz.prog 99 #[v] w fun e w' => ∃ v' bs, e = .returned v' ∧ OwnI w' v' (-z) bs ∧ Fresh w.heap.size w' bs ∧ Below w.heap.size w w' := by
  obtain ⟨A, c, rfl, -, -⟩ := id hx
  have HX := Lib.hid hx
  clear hx
  obtain ⟨w3, h3, hB, b0, b1⟩ := boxes2 w 34 34 #[.bool (decide (z < 0)), .slice A (digs z.natAbs).length c] #[.bool false, .slice none 0 0]
  have H3 := Lib.hid h3
  have B0 := Lib.hid b0
  have B1 := Lib.hid b1
  clear h3 b0 b1
  obtain ⟨y, hy⟩ : ∃ y, y = -z := ⟨_, rfl⟩
  rw [← hy]
  have HY := Lib.hid hy
  clear hy
  go_enter Tryz.func99, Tryz.ntmps99
  go_wp2_with fail
  rw [← H3.out]
  refine (iof_reads _ _ z (B := B) (HX.out.below hB) (Below.le hB hBw)).mono ?_
  rintro e w4 ⟨v4, rfl, hp4, hB4⟩
  have HP4 := Lib.hid hp4
  clear hp4
  ((replace B0 := Lib.hid (Box.below (Box.below (Hid.out B0) (by ((repeat (first | assumption | exact Below.refl _ _ | refine Below.drew ?_ | refine below_drewN ?_ _ | refine Below.alloc' ?_ _ | refine Below.setCell ?_ (by first | omega | (dsimp only; omega) | (simp; done) | (simp; omega)) _ | refine Below.alloc ?_ (by first | assumption | exact Nat.le_refl _ | omega | (simp; done) | (simp; omega)) _))))) hB4); (try clear B0c1 B0c2 B0c3 B0c4); obtain ⟨B0c1, B0c2, B0c3, B0c4⟩ := Box.two (Hid.out B0); have := Box.lt (Hid.out B0)))
  ((replace B1 := Lib.hid (Box.below (Box.below (Hid.out B1) (by ((repeat (first | assumption | exact Below.refl _ _ | refine Below.drew ?_ | refine below_drewN ?_ _ | refine Below.alloc' ?_ _ | refine Below.setCell ?_ (by first | omega | (dsimp only; omega) | (simp; done) | (simp; omega)) _ | refine Below.alloc ?_ (by first | assumption | exact Nat.le_refl _ | omega | (simp; done) | (simp; omega)) _))))) hB4); (try clear B1c1 B1c2 B1c3 B1c4); obtain ⟨B1c1, B1c2, B1c3, B1c4⟩ := Box.two (Hid.out B1); have := Box.lt (Hid.out B1)))
  ((replace hB := Below.on (Below.on hB (by ((repeat (first | assumption | exact Below.refl _ _ | refine Below.drew ?_ | refine below_drewN ?_ _ | refine Below.alloc' ?_ _ | refine Below.setCell ?_ (by first | omega | (dsimp only; omega) | (simp; done) | (simp; omega)) _ | refine Below.alloc ?_ (by first | assumption | exact Nat.le_refl _ | omega | (simp; done) | (simp; omega)) _))))) hB4; have := Below.size hB))
  go_wp2_with fail
  refine (turned_calls _ _ z (B := B) HP4.out (Below.le hB hBw)).mono ?_
  rw [← HY.out]
  rintro e w5 ⟨v5, rfl, hp5, hB5⟩
  obtain ⟨A5, c5, rfl, hc5, -⟩ := id hp5
  have HP5 := Lib.hid hp5
  clear hp5
  ((replace B0 := Lib.hid (Box.below (Box.below (Hid.out B0) (by ((repeat (first | assumption | exact Below.refl _ _ | refine Below.drew ?_ | refine below_drewN ?_ _ | refine Below.alloc' ?_ _ | refine Below.setCell ?_ (by first | omega | (dsimp only; omega) | (simp; done) | (simp; omega)) _ | refine Below.alloc ?_ (by first | assumption | exact Nat.le_refl _ | omega | (simp; done) | (simp; omega)) _))))) hB5); (try clear B0c1 B0c2 B0c3 B0c4); obtain ⟨B0c1, B0c2, B0c3, B0c4⟩ := Box.two (Hid.out B0); have := Box.lt (Hid.out B0)))
  ((replace B1 := Lib.hid (Box.below (Box.below (Hid.out B1) (by ((repeat (first | assumption | exact Below.refl _ _ | refine Below.drew ?_ | refine below_drewN ?_ _ | refine Below.alloc' ?_ _ | refine Below.setCell ?_ (by first | omega | (dsimp only; omega) | (simp; done) | (simp; omega)) _ | refine Below.alloc ?_ (by first | assumption | exact Nat.le_refl _ | omega | (simp; done) | (simp; omega)) _))))) hB5); (try clear B1c1 B1c2 B1c3 B1c4); obtain ⟨B1c1, B1c2, B1c3, B1c4⟩ := Box.two (Hid.out B1); have := Box.lt (Hid.out B1)))
  ((replace hB := Below.on (Below.on hB (by ((repeat (first | assumption | exact Below.refl _ _ | refine Below.drew ?_ | refine below_drewN ?_ _ | refine Below.alloc' ?_ _ | refine Below.setCell ?_ (by first | omega | (dsimp only; omega) | (simp; done) | (simp; omega)) _ | refine Below.alloc ?_ (by first | assumption | exact Nat.le_refl _ | omega | (simp; done) | (simp; omega)) _))))) hB5; have := Below.size hB))
  go_wp2_with fail
  obtain ⟨w6, h6, hB6, n6⟩ := boxes1 w5 105 #[.bool (decide (y < 0)), .slice A5 (digs y.natAbs).length c5]
  rw [← h6]
  clear h6
  have N6 := Lib.hid n6
  clear n6
  (replace HP5 := Lib.hid (RInt.below (RInt.below (Hid.out HP5) (by ((repeat (first | assumption | exact Below.refl _ _ | refine Below.drew ?_ | refine below_drewN ?_ _ | refine Below.alloc' ?_ _ | refine Below.setCell ?_ (by first | omega | (dsimp only; omega) | (simp; done) | (simp; omega)) _ | refine Below.alloc ?_ (by first | assumption | exact Nat.le_refl _ | omega | (simp; done) | (simp; omega)) _))))) hB6))
  ((replace B1 := Lib.hid (Box.below (Box.below (Hid.out B1) (by ((repeat (first | assumption | exact Below.refl _ _ | refine Below.drew ?_ | refine below_drewN ?_ _ | refine Below.alloc' ?_ _ | refine Below.setCell ?_ (by first | omega | (dsimp only; omega) | (simp; done) | (simp; omega)) _ | refine Below.alloc ?_ (by first | assumption | exact Nat.le_refl _ | omega | (simp; done) | (simp; omega)) _))))) hB6); (try clear B1c1 B1c2 B1c3 B1c4); obtain ⟨B1c1, B1c2, B1c3, B1c4⟩ := Box.two (Hid.out B1); have := Box.lt (Hid.out B1)))
  ((replace hB := Below.on (Below.on hB (by ((repeat (first | assumption | exact Below.refl _ _ | refine Below.drew ?_ | refine below_drewN ?_ _ | refine Below.alloc' ?_ _ | refine Below.setCell ?_ (by first | omega | (dsimp only; omega) | (simp; done) | (simp; omega)) _ | refine Below.alloc ?_ (by first | assumption | exact Nat.le_refl _ | omega | (simp; done) | (simp; omega)) _))))) hB6; have := Below.size hB))
  (((try clear N6c1 N6c2 N6c3 N6c4); obtain ⟨N6c1, N6c2, N6c3, N6c4⟩ := Box.two (Hid.out N6)))
  have P5 : Hid (Parts w6 A5 (digs y.natAbs)) := by obtain ⟨A, c, e, _, hp⟩ := HP5.out; cases e; exact hp.1
  go_region_held3 (fun w' => w'.cell? ⟨w5.heap.size, 0, none⟩ = some (.bool (decide (y < 0))) ∧ w'.cell? ⟨w5.heap.size, 1, none⟩ = some (.slice A5 (digs y.natAbs).length c5)) (first | (((repeat' apply And.intro) <;> (repeat (first | assumption | refine cell_alloc ?_ | refine cell_far ?_ (by first | omega | (dsimp only; omega) | (simp; done) | (simp; omega)))))) | go_keep) (first
    | (go_at_call 88; ((with_reducible refine Calls.mono (clone_calls _ _ _ y.natAbs (P5.out.below (by ((repeat (first | assumption | exact Below.refl _ _ | refine Below.drew ?_ | refine below_drewN ?_ _ | refine Below.alloc' ?_ _ | refine Below.setCell ?_ (by first | omega | (dsimp only; omega) | (simp; done) | (simp; omega)) _ | refine Below.alloc ?_ (by first | assumption | exact Nat.le_refl _ | omega | (simp; done) | (simp; omega)) _))))) hc5) ?_); rintro e w7 ⟨v7, bs, rfl, hO, hF, hB7⟩; obtain ⟨A7, c7, rfl, -, -⟩ := hO.reads; have HO := Lib.hid hO; have HF := Lib.hid hF; clear hO hF; ((replace N6 := Lib.hid (Box.below (Box.below (Hid.out N6) (by ((repeat (first | assumption | exact Below.refl _ _ | refine Below.drew ?_ | refine below_drewN ?_ _ | refine Below.alloc' ?_ _ | refine Below.setCell ?_ (by first | omega | (dsimp only; omega) | (simp; done) | (simp; omega)) _ | refine Below.alloc ?_ (by first | assumption | exact Nat.le_refl _ | omega | (simp; done) | (simp; omega)) _))))) hB7); (try clear N6c1 N6c2 N6c3 N6c4); obtain ⟨N6c1, N6c2, N6c3, N6c4⟩ := Box.two (Hid.out N6); have := Box.lt (Hid.out N6))); ((replace B1 := Lib.hid (Box.below (Box.below (Hid.out B1) (by ((repeat (first | assumption | exact Below.refl _ _ | refine Below.drew ?_ | refine below_drewN ?_ _ | refine Below.alloc' ?_ _ | refine Below.setCell ?_ (by first | omega | (dsimp only; omega) | (simp; done) | (simp; omega)) _ | refine Below.alloc ?_ (by first | assumption | exact Nat.le_refl _ | omega | (simp; done) | (simp; omega)) _))))) hB7); (try clear B1c1 B1c2 B1c3 B1c4); obtain ⟨B1c1, B1c2, B1c3, B1c4⟩ := Box.two (Hid.out B1); have := Box.lt (Hid.out B1))); ((replace hB := Below.on (Below.on hB (by ((repeat (first | assumption | exact Below.refl _ _ | refine Below.drew ?_ | refine below_drewN ?_ _ | refine Below.alloc' ?_ _ | refine Below.setCell ?_ (by first | omega | (dsimp only; omega) | (simp; done) | (simp; omega)) _ | refine Below.alloc ?_ (by first | assumption | exact Nat.le_refl _ | omega | (simp; done) | (simp; omega)) _))))) hB7; have := Below.size hB)))))
  go_wp2_with fail
  refine bodyPost_ret (v := .agg #[.bool (decide (y < 0)), .slice A7 (digs y.natAbs).length c7]) (result_var rfl (g := w.heap.size + 1) rfl (load_int2 _ _ _ _ (B1.out.put2 _ _))) rfl ⟨_, bs, rfl, OwnI.set2 ⟨_, rfl, HO.out⟩ B1.out (by decide) _ _, ?_, by ((repeat (first | assumption | exact Below.refl _ _ | refine Below.drew ?_ | refine below_drewN ?_ _ | refine Below.alloc' ?_ _ | refine Below.setCell ?_ (by first | omega | (dsimp only; omega) | (simp; done) | (simp; omega)) _ | refine Below.alloc ?_ (by first | assumption | exact Nat.le_refl _ | omega | (simp; done) | (simp; omega)) _)))⟩
  exact (HF.out.up (by simp)).low (by have := hB6.size; show w.heap.size ≤ w6.heap.size; omega)

end Go.Proofs.YthofbikhomnjpaaGreatDoor
