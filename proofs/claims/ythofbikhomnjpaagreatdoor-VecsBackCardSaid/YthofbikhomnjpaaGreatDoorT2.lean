import Derived.Test.YthofbikhomnjpaaGreatDoorT1
import Derived.Test.YthofbikhomnjpaaGreatDoorV6
namespace Go.Proofs.YthofbikhomnjpaaGreatDoor
open Go.RowKit
set_option linter.unusedVariables false
set_option linter.unusedSimpArgs false

theorem digs11 : digs 11 = [11] := by
  rw [digs_pos (by decide), show 11 / 4294967296 = 0 from rfl, digs_zero]

set_option maxRecDepth 100000 in
set_option maxHeartbeats 4000000 in
theorem itext11_calls (w : World) (v : Value) {B : Nat} (h : RInt B w v 11) (hBw : B ≤ w.heap.size) :
    Calls Tryz.prog 84 #[v] w fun e w' => e = .returned (.string ⟨#[49, 49]⟩) ∧ Below w.heap.size w w' := by
  obtain ⟨A, c, rfl, hc, hp⟩ := id h
  have e11 : (digs (11 : Int).natAbs).length = 1 := by rw [show (11 : Int).natAbs = 11 from rfl, digs11]; rfl
  have e0 : decide ((11 : Int) < 0) = false := rfl
  rw [e11, e0] at h ⊢
  have HX := Lib.hid h
  clear h hp hc e11 e0
  obtain ⟨w3, h3, hB, b0⟩ := boxes1 w 34 #[.bool false, .slice A 1 c]
  have H3 := Lib.hid h3
  have B0 := Lib.hid b0
  have hs3 := hB.size
  clear h3 b0
  go_enter Tryz.func84, Tryz.ntmps84
  go_wp2_with fail
  rw [← H3.out]
  (((try clear B0c1 B0c2 B0c3 B0c4); obtain ⟨B0c1, B0c2, B0c3, B0c4⟩ := Box.two (Hid.out B0)))
  refine (iof_reads _ _ 11 (B := B) (HX.out.below hB) (by omega)).mono ?_
  rintro e w4 ⟨v4, rfl, hr, hB4⟩
  obtain ⟨A4, c4, rfl, hc4, hp4⟩ := id hr
  have e11 : digs (11 : Int).natAbs = [11] := by rw [show (11 : Int).natAbs = 11 from rfl, digs11]
  have e0 : decide ((11 : Int) < 0) = false := rfl
  rw [e11] at hc4 hp4 ⊢
  rw [e0]
  have HP := Lib.hid hp4.1
  have hc4' : 1 ≤ c4 := hc4
  clear hr hp4 hc4 e11 e0
  ((replace hB := Below.on (Below.on hB (by ((repeat (first | assumption | exact Below.refl _ _ | refine Below.drew ?_ | refine below_drewN ?_ _ | refine Below.alloc' ?_ _ | refine Below.setCell ?_ (by first | omega | (dsimp only; omega) | (simp; done) | (simp; omega)) _ | refine Below.alloc ?_ (by first | assumption | exact Nat.le_refl _ | omega | (simp; done) | (simp; omega)) _))))) hB4; have := Below.size hB))
  go_wp2_with fail
  refine (text11_calls _ _ _ (HP.out.below (by ((repeat (first | assumption | exact Below.refl _ _ | refine Below.drew ?_ | refine below_drewN ?_ _ | refine Below.alloc' ?_ _ | refine Below.setCell ?_ (by first | omega | (dsimp only; omega) | (simp; done) | (simp; omega)) _ | refine Below.alloc ?_ (by first | assumption | exact Nat.le_refl _ | omega | (simp; done) | (simp; omega)) _))))) hc4').mono ?_
  rintro e w5 ⟨rfl, hB5⟩
  ((replace hB := Below.on (Below.on hB (by ((repeat (first | assumption | exact Below.refl _ _ | refine Below.drew ?_ | refine below_drewN ?_ _ | refine Below.alloc' ?_ _ | refine Below.setCell ?_ (by first | omega | (dsimp only; omega) | (simp; done) | (simp; omega)) _ | refine Below.alloc ?_ (by first | assumption | exact Nat.le_refl _ | omega | (simp; done) | (simp; omega)) _))))) hB5; have := Below.size hB))
  go_wp2_with fail
  go_ret
  exact ⟨rfl, hB⟩

theorem raw11 {B : Nat} {w : World} {v : Value} (h : RawAt B w v (rawOf 11)) : ∃ A c A' c', v = .agg #[.bool false, .slice A 1 c, .slice A' 1 c'] ∧ RInt B w (.agg #[.bool false, .slice A 1 c]) 11 ∧ PartsAt B w A' [1] := by
  obtain ⟨A, c, A', c', h1, h2, h3, h4⟩ := h.open
  have e1 : (11 : Rat).num = 11 := rfl
  have e2 : (11 : Rat).den = 1 := rfl
  have e3 : digs (11 : Int).natAbs = [11] := by rw [show (11 : Int).natAbs = 11 from rfl, digs11]
  have e4 : digs 1 = [1] := by have := digs_one 1; simpa using this
  have e5 : decide ((11 : Int) < 0) = false := rfl
  rw [e1, e2, e3, e4, e5] at h1
  rw [e1, e3, e5] at h2
  rw [e2, e4] at h4
  exact ⟨A, c, A', c', h1, h2, h4⟩
theorem rof11 (w : World) (v : Value) {B : Nat} (h : RawAt B w v (rawOf 11)) (hT : Tab w) (hBw : B ≤ w.heap.size) :
    Calls Tryz.prog 62 #[v] w fun e w' => ∃ A c A' c', e = .returned (.agg #[.bool false, .slice A 1 c, .slice A' 1 c']) ∧ RInt B w' (.agg #[.bool false, .slice A 1 c]) 11 ∧ PartsAt B w' A' [1] ∧ Below w.heap.size w w' := by
  have hs : (rawOf 11).xs.length + (rawOf 11).ys.length ≤ 8796093022000 := by
    have : (rawOf 11).le 1 := (fits_int (n := 11) (by decide))
    have h1 := this.1; have h2 := this.2; omega
  refine (rof_calls w v (rawOf 11) h hT hs hBw).mono ?_
  rw [rawOf_q]
  rintro e w' ⟨v', rfl, hr, hb⟩
  obtain ⟨A, c, A', c', rfl, h2, h3⟩ := raw11 hr
  exact ⟨A, c, A', c', rfl, h2, h3, hb⟩

set_option maxRecDepth 100000 in
set_option maxHeartbeats 4000000 in
theorem rtext11_calls (w : World) (v : Value) {B : Nat} (h : RawAt B w v (rawOf 11)) (hT : Tab w) (hBw : B ≤ w.heap.size) :
    Calls Tryz.prog 47 #[v] w fun e w' => e = .returned (.string ⟨#[49, 49]⟩) ∧ Below w.heap.size w w' := by
  obtain ⟨A, c, A', c', rfl, -, -⟩ := raw11 h
  have HX := Lib.hid h
  have HT := Lib.hid hT
  clear h hT
  obtain ⟨w3, h3, hB, b0⟩ := boxes1 w 36 #[.bool false, .slice A 1 c, .slice A' 1 c']
  have H3 := Lib.hid h3
  have B0 := Lib.hid b0
  have hs3 := hB.size
  clear h3 b0
  go_enter Tryz.func47, Tryz.ntmps47
  go_wp2_with fail
  rw [← H3.out]
  (((try clear B0c1 B0c2 B0c3 B0c4 B0c5 B0c6); obtain ⟨B0c1, B0c2, B0c3, B0c4, B0c5, B0c6⟩ := Box.three (Hid.out B0)))
  refine (rof11 _ _ (B := B) (HX.out.below hB) (HT.out.below hB) (by omega)).mono ?_
  rintro e w4 ⟨A4, c4, A4', c4', rfl, hr, hp, hB4⟩
  have R4 := Lib.hid hr
  have P4 := Lib.hid hp
  clear hr hp
  ((replace B0 := Lib.hid (Box.below (Box.below (Hid.out B0) (by ((repeat (first | assumption | exact Below.refl _ _ | refine Below.drew ?_ | refine below_drewN ?_ _ | refine Below.alloc' ?_ _ | refine Below.setCell ?_ (by first | omega | (dsimp only; omega) | (simp; done) | (simp; omega)) _ | refine Below.alloc ?_ (by first | assumption | exact Nat.le_refl _ | omega | (simp; done) | (simp; omega)) _))))) hB4); (try clear B0c1 B0c2 B0c3 B0c4 B0c5 B0c6); obtain ⟨B0c1, B0c2, B0c3, B0c4, B0c5, B0c6⟩ := Box.three (Hid.out B0); have := Box.lt (Hid.out B0)))
  ((replace hB := Below.on (Below.on hB (by ((repeat (first | assumption | exact Below.refl _ _ | refine Below.drew ?_ | refine below_drewN ?_ _ | refine Below.alloc' ?_ _ | refine Below.setCell ?_ (by first | omega | (dsimp only; omega) | (simp; done) | (simp; omega)) _ | refine Below.alloc ?_ (by first | assumption | exact Nat.le_refl _ | omega | (simp; done) | (simp; omega)) _))))) hB4; have := Below.size hB))
  go_wp2_with fail
  obtain ⟨w5, h5⟩ : ∃ w5, w5 = ((w4.setCell ⟨w.heap.size, 0, none⟩ (.bool false)).setCell ⟨w.heap.size, 1, none⟩ (.slice A4 1 c4)).setCell ⟨w.heap.size, 2, none⟩ (.slice A4' 1 c4') := ⟨_, rfl⟩
  have R5 : Hid (RInt B w5 (.agg #[.bool false, .slice A4 1 c4]) 11) := by rw [h5]; exact R4.out.set3 B0.out (by decide) hBw _ _ _
  have P5 : Hid (PartsAt B w5 A4' [1]) := by rw [h5]; exact P4.out.set3 B0.out (by decide) hBw _ _ _
  have Z0 : Hid (Box w5 w.heap.size 36 #[.bool false, .slice A4 1 c4, .slice A4' 1 c4']) := by rw [h5]; exact B0.out.put3 _ _ _
  have hb5 : Below w.heap.size w w5 := by rw [h5]; exact Below_set3 hB (Nat.le_refl _) _ _ _
  rw [← h5]
  clear h5 B0 B0c1 B0c2 B0c3 B0c4 B0c5 B0c6
  have hs5 := hb5.size
  (((try clear Z0c1 Z0c2 Z0c3 Z0c4 Z0c5 Z0c6); obtain ⟨Z0c1, Z0c2, Z0c3, Z0c4, Z0c5, Z0c6⟩ := Box.three (Hid.out Z0)))
  refine (itext11_calls _ _ R5.out (by omega)).mono ?_
  rintro e w6 ⟨rfl, hB6⟩
  ((replace Z0 := Lib.hid (Box.below (Box.below (Hid.out Z0) (by ((repeat (first | assumption | exact Below.refl _ _ | refine Below.drew ?_ | refine below_drewN ?_ _ | refine Below.alloc' ?_ _ | refine Below.setCell ?_ (by first | omega | (dsimp only; omega) | (simp; done) | (simp; omega)) _ | refine Below.alloc ?_ (by first | assumption | exact Nat.le_refl _ | omega | (simp; done) | (simp; omega)) _))))) hB6); (try clear Z0c1 Z0c2 Z0c3 Z0c4 Z0c5 Z0c6); obtain ⟨Z0c1, Z0c2, Z0c3, Z0c4, Z0c5, Z0c6⟩ := Box.three (Hid.out Z0); have := Box.lt (Hid.out Z0)))
  (replace P5 := Lib.hid (PartsAt.below (PartsAt.below (Hid.out P5) (by ((repeat (first | assumption | exact Below.refl _ _ | refine Below.drew ?_ | refine below_drewN ?_ _ | refine Below.alloc' ?_ _ | refine Below.setCell ?_ (by first | omega | (dsimp only; omega) | (simp; done) | (simp; omega)) _ | refine Below.alloc ?_ (by first | assumption | exact Nat.le_refl _ | omega | (simp; done) | (simp; omega)) _))))) hB6))
  ((replace hb5 := Below.on (Below.on hb5 (by ((repeat (first | assumption | exact Below.refl _ _ | refine Below.drew ?_ | refine below_drewN ?_ _ | refine Below.alloc' ?_ _ | refine Below.setCell ?_ (by first | omega | (dsimp only; omega) | (simp; done) | (simp; omega)) _ | refine Below.alloc ?_ (by first | assumption | exact Nat.le_refl _ | omega | (simp; done) | (simp; omega)) _))))) hB6; have := Below.size hb5))
  go_wp2_with fail
  refine (is1_calls _ _ _ [1] P5.out.1).mono ?_
  rintro e w7 ⟨rfl, rfl⟩
  go_wp2_with fail
  go_ret
  exact ⟨rfl, hb5⟩

end Go.Proofs.YthofbikhomnjpaaGreatDoor
