import Derived.Test.YthofbikhomnjpaaGreatDoorI1
import Derived.Deep.RegionHeld3
namespace Go.Proofs.YthofbikhomnjpaaGreatDoor
open Go.RowKit
set_option linter.unusedVariables false
set_option linter.unusedSimpArgs false


theorem turned_calls (w : World) (v : Value) (z : Int) {B : Nat} (h : RInt B w v z) (hBw : B ≤ w.heap.size) :
    Calls Tryz.prog 97 #[v] w fun e w' => ∃ v', e = .returned v' ∧ RInt B w' v' (-z) ∧ Below w.heap.size w w' := by
  obtain ⟨A, c, rfl, hc, hp⟩ := h
  have H := Lib.hid hp
  clear hp
  obtain ⟨y, hy⟩ : ∃ y, y = -z := ⟨_, rfl⟩
  rw [← hy]
  have hz : y = if (!decide (z < 0)) = true then -(z.natAbs : Int) else z.natAbs := by
    by_cases h : z < 0
    · simp [h, hy]; omega
    · simp [h, hy]; omega
  clear hy
  generalize decide (z < 0) = neg at *
  generalize z.natAbs = n at *
  have hz' := Lib.hid hz
  clear hz
  have hB : Below w.heap.size w ((w.alloc (.cells #[.bool neg, .slice A (digs n).length c] 105)).alloc (.cells #[.bool false, .slice none 0 0] 105)) := by ((repeat (first | assumption | exact Below.refl _ _ | refine Below.drew ?_ | refine below_drewN ?_ _ | refine Below.alloc' ?_ _ | refine Below.setCell ?_ (by first | omega | (dsimp only; omega) | (simp; done) | (simp; omega)) _ | refine Below.alloc ?_ (by first | assumption | exact Nat.le_refl _ | omega | (simp; done) | (simp; omega)) _)))
  have BY := Lib.hid (Box.new' (w.alloc (.cells #[.bool neg, .slice A (digs n).length c] 105)) 105 #[.bool false, .slice none 0 0] (g := w.heap.size + 1) (by simp))
  have HB := Lib.hid hB
  clear hB
  go_enter Tryz.func97, Tryz.ntmps97
  go_wp2_with fail
  refine (signed_reads _ (!neg) A c _ _ hz'.out hc (H.out.below HB.out)).mono ?_
  rintro e w1 ⟨v, rfl, ⟨A1, c1, rfl, hc1, hp1⟩, hB1⟩
  have H1 := Lib.hid hp1
  clear hp1
  ((replace BY := Lib.hid (Box.below (Hid.out BY) hB1); (try clear BYc1 BYc2 BYc3 BYc4); obtain ⟨BYc1, BYc2, BYc3, BYc4⟩ := Box.two (Hid.out BY)))
  go_wp2_with fail
  have hb2 := ((Hid.out BY).set 0 (.bool (decide (y < 0)))).set 1 (.slice A1 (digs y.natAbs).length c1)
  have hbw := HB.out.trans (hB1.mono HB.out.size)
  refine bodyPost_ret (v := .agg #[.bool (decide (y < 0)), .slice A1 (digs y.natAbs).length c1]) (result_var rfl (g := w.heap.size + 1) rfl (load_whole _ _ _ _ hb2)) rfl ⟨_, rfl, RInt.set2 ⟨A1, c1, rfl, hc1, H1.out⟩ BY.out (by decide) (by omega) _ _, by ((repeat (first | assumption | exact Below.refl _ _ | refine Below.drew ?_ | refine below_drewN ?_ _ | refine Below.alloc' ?_ _ | refine Below.setCell ?_ (by first | omega | (dsimp only; omega) | (simp; done) | (simp; omega)) _ | refine Below.alloc ?_ (by first | assumption | exact Nat.le_refl _ | omega | (simp; done) | (simp; omega)) _)))⟩

set_option maxRecDepth 100000 in
set_option maxHeartbeats 4000000 in
theorem plus_same (w : World) (neg : Bool) (A A' : Option Addr) (c c' a b : Nat) (hx : Parts w A (digs a)) (hy : Parts w A' (digs b)) (hc : (digs a).length ≤ c) (hc' : (digs b).length ≤ c') (hsz : (digs a).length + (digs b).length ≤ 17592186044416) (z : Int) (hz : z = if neg then -((a + b : Nat) : Int) else ((a + b : Nat) : Int)) :
    Calls Tryz.prog 96 #[.agg #[.bool neg, .slice A (digs a).length c], .agg #[.bool neg, .slice A' (digs b).length c']] w fun e w' => ∃ v bs, e = .returned v ∧ OwnI w' v z bs ∧ Fresh w.heap.size w' bs ∧ Below w.heap.size w w' := by
  have HX := Lib.hid hx
  have HY := Lib.hid hy
  have HZ := Lib.hid hz
  clear hx hy hz
  obtain ⟨w3, h3, hB, b0, b1, b2⟩ := boxes3 w 105 105 34 #[.bool neg, .slice A (digs a).length c] #[.bool neg, .slice A' (digs b).length c'] #[.bool false, .slice none 0 0]
  have H3 := Lib.hid h3
  have HB := Lib.hid hB
  have B0 := Lib.hid b0
  have B1 := Lib.hid b1
  have B2 := Lib.hid b2
  clear h3 hB b0 b1 b2
  go_enter Tryz.func96, Tryz.ntmps96
  go_wp2_with fail
  rw [← H3.out]
  (((try clear B0c1 B0c2 B0c3 B0c4); obtain ⟨B0c1, B0c2, B0c3, B0c4⟩ := Box.two (Hid.out B0)))
  (((try clear B1c1 B1c2 B1c3 B1c4); obtain ⟨B1c1, B1c2, B1c3, B1c4⟩ := Box.two (Hid.out B1)))
  go_region_held3 (fun w' => w'.cell? ⟨w.heap.size, 0, none⟩ = some (.bool neg) ∧ w'.cell? ⟨w.heap.size, 1, none⟩ = some (.slice A (digs a).length c) ∧ w'.cell? ⟨w.heap.size + 1, 1, none⟩ = some (.slice A' (digs b).length c')) (first | (((repeat' apply And.intro) <;> (repeat (first | assumption | refine cell_alloc ?_ | refine cell_far ?_ (by first | omega | (dsimp only; omega) | (simp; done) | (simp; omega)))))) | go_keep) (first
    | (go_at_call 116; ((with_reducible refine (add_calls _ _ _ _ _ (digs a) (digs b) (HX.out.below (by first | exact HB.out.drew | exact HB.out)) (HY.out.below (by first | exact HB.out.drew | exact HB.out)) hc hc' hsz).mono ?_); rintro e w4 ⟨v, bs, rfl, hO, hF, hB4⟩; have HO := Lib.hid hO; have HB4 := Lib.hid hB4; have HF := Lib.hid hF; clear hO hB4 hF; (((first | replace B0 := Lib.hid (Box.below (Hid.out B0) (Hid.out HB4)) | replace B0 := Lib.hid (Box.below (Box.drew (Hid.out B0)) (Hid.out HB4))); (try clear B0c1 B0c2 B0c3 B0c4); obtain ⟨B0c1, B0c2, B0c3, B0c4⟩ := Box.two (Hid.out B0))); (((first | replace B1 := Lib.hid (Box.below (Hid.out B1) (Hid.out HB4)) | replace B1 := Lib.hid (Box.below (Box.drew (Hid.out B1)) (Hid.out HB4))); (try clear B1c1 B1c2 B1c3 B1c4); obtain ⟨B1c1, B1c2, B1c3, B1c4⟩ := Box.two (Hid.out B1))); (((first | replace B2 := Lib.hid (Box.below (Hid.out B2) (Hid.out HB4)) | replace B2 := Lib.hid (Box.below (Box.drew (Hid.out B2)) (Hid.out HB4))); (try clear B2c1 B2c2 B2c3 B2c4); obtain ⟨B2c1, B2c2, B2c3, B2c4⟩ := Box.two (Hid.out B2)))))
    | (go_at_call 75; ((with_reducible refine (signed_own _ neg _ _ _ z (by rw [fval_digs, fval_digs]; exact HZ.out) HO.out).mono ?_); rintro e w5 ⟨v5, rfl, ⟨s5, rfl, hO5⟩, hB5⟩; obtain ⟨A5, c5, rfl, -, -⟩ := hO5.reads; have HO5 := Lib.hid hO5; have HB5 := Lib.hid hB5; clear hO5 hB5; (((first | replace B0 := Lib.hid (Box.below (Hid.out B0) (Hid.out HB5)) | replace B0 := Lib.hid (Box.below (Box.drew (Hid.out B0)) (Hid.out HB5))); (try clear B0c1 B0c2 B0c3 B0c4); obtain ⟨B0c1, B0c2, B0c3, B0c4⟩ := Box.two (Hid.out B0))); (((first | replace B1 := Lib.hid (Box.below (Hid.out B1) (Hid.out HB5)) | replace B1 := Lib.hid (Box.below (Box.drew (Hid.out B1)) (Hid.out HB5))); (try clear B1c1 B1c2 B1c3 B1c4); obtain ⟨B1c1, B1c2, B1c3, B1c4⟩ := Box.two (Hid.out B1))); (((first | replace B2 := Lib.hid (Box.below (Hid.out B2) (Hid.out HB5)) | replace B2 := Lib.hid (Box.below (Box.drew (Hid.out B2)) (Hid.out HB5))); (try clear B2c1 B2c2 B2c3 B2c4); obtain ⟨B2c1, B2c2, B2c3, B2c4⟩ := Box.two (Hid.out B2))))))
  go_wp2_with fail
  have hb2 := (B2.out.set 0 (.bool (decide (z < 0)))).set 1 (.slice A5 (digs z.natAbs).length c5)
  have s3 := HB.out.size
  have s4 : w3.heap.size ≤ w4.heap.size := HB4.out.size
  have s5 := HB5.out.size
  have hw5 : Below w.heap.size w w5 := (HB.out.drew.trans (HB4.out.mono s3)).trans (HB5.out.mono (by omega))
  refine bodyPost_ret (v := .agg #[.bool (decide (z < 0)), .slice A5 (digs z.natAbs).length c5]) (result_var rfl (g := w.heap.size + 1 + 1) rfl (load_int2 _ _ _ _ hb2)) rfl ⟨_, bs, rfl, OwnI.set2 ⟨_, rfl, HO5.out⟩ B2.out (by decide) _ _, ?_, by ((repeat (first | assumption | exact Below.refl _ _ | refine Below.drew ?_ | refine below_drewN ?_ _ | refine Below.alloc' ?_ _ | refine Below.setCell ?_ (by first | omega | (dsimp only; omega) | (simp; done) | (simp; omega)) _ | refine Below.alloc ?_ (by first | assumption | exact Nat.le_refl _ | omega | (simp; done) | (simp; omega)) _)))⟩
  exact ((HF.out.up s5).up (by simp)).low (by first | exact s3 | omega)

set_option maxRecDepth 100000 in
set_option maxHeartbeats 4000000 in
theorem plus_ge (w : World) (na nb : Bool) (A A' : Option Addr) (c c' a b : Nat) (hx : Parts w A (digs a)) (hy : Parts w A' (digs b)) (hc : (digs a).length ≤ c) (hc' : (digs b).length ≤ c') (hne : na ≠ nb) (hle : b ≤ a) (z : Int) (hz : z = if na then -((a - b : Nat) : Int) else ((a - b : Nat) : Int)) :
    Calls Tryz.prog 96 #[.agg #[.bool na, .slice A (digs a).length c], .agg #[.bool nb, .slice A' (digs b).length c']] w fun e w' => ∃ v bs, e = .returned v ∧ OwnI w' v z bs ∧ Fresh w.heap.size w' bs ∧ Below w.heap.size w w' := by
  have hcm : decide (cmpN (fval (digs a)) (fval (digs b)) < 0) = false := decide_eq_false (by rw [fval_digs, fval_digs]; have := cmpN_ge hle; omega)
  have HX := Lib.hid hx
  have HY := Lib.hid hy
  have HZ := Lib.hid hz
  clear hx hy hz
  obtain ⟨w3, h3, hB, b0, b1, b2⟩ := boxes3 w 105 105 34 #[.bool na, .slice A (digs a).length c] #[.bool nb, .slice A' (digs b).length c'] #[.bool false, .slice none 0 0]
  have H3 := Lib.hid h3
  have HB := Lib.hid hB
  have B0 := Lib.hid b0
  have B1 := Lib.hid b1
  have B2 := Lib.hid b2
  clear h3 hB b0 b1 b2
  have hne' : (na == nb) = false := by cases na <;> cases nb <;> simp_all
  go_enter Tryz.func96, Tryz.ntmps96
  go_wp2_with fail
  rw [← H3.out]
  refine (cmp_calls _ _ _ _ _ (digs a) (digs b) (HX.out.below HB.out) (HY.out.below HB.out) hc hc').mono ?_
  rintro e w4 ⟨rfl, hB4⟩
  have HB4 := Lib.hid hB4
  clear hB4
  (((first | replace B0 := Lib.hid (Box.below (Hid.out B0) (Hid.out HB4)) | replace B0 := Lib.hid (Box.below (Box.drew (Hid.out B0)) (Hid.out HB4))); (try clear B0c1 B0c2 B0c3 B0c4); obtain ⟨B0c1, B0c2, B0c3, B0c4⟩ := Box.two (Hid.out B0)))
  (((first | replace B1 := Lib.hid (Box.below (Hid.out B1) (Hid.out HB4)) | replace B1 := Lib.hid (Box.below (Box.drew (Hid.out B1)) (Hid.out HB4))); (try clear B1c1 B1c2 B1c3 B1c4); obtain ⟨B1c1, B1c2, B1c3, B1c4⟩ := Box.two (Hid.out B1)))
  (((first | replace B2 := Lib.hid (Box.below (Hid.out B2) (Hid.out HB4)) | replace B2 := Lib.hid (Box.below (Box.drew (Hid.out B2)) (Hid.out HB4))); (try clear B2c1 B2c2 B2c3 B2c4); obtain ⟨B2c1, B2c2, B2c3, B2c4⟩ := Box.two (Hid.out B2)))
  have hB4w := Lib.hid (HB.out.trans (HB4.out.mono HB.out.size))
  go_wp2_with fail
  refine (sub_calls _ _ _ _ _ (digs a) (digs b) (HX.out.below hB4w.out) (HY.out.below hB4w.out) hc hc' (okL_digs _) (okL_digs _) (by rw [val_digs, val_digs]; omega)).mono ?_
  rintro e w5 ⟨v, bs, rfl, hO, hF, hB5⟩
  have HO := Lib.hid hO; have HB5 := Lib.hid hB5; have HF := Lib.hid hF
  clear hO hB5 hF
  (((first | replace B0 := Lib.hid (Box.below (Hid.out B0) (Hid.out HB5)) | replace B0 := Lib.hid (Box.below (Box.drew (Hid.out B0)) (Hid.out HB5))); (try clear B0c1 B0c2 B0c3 B0c4); obtain ⟨B0c1, B0c2, B0c3, B0c4⟩ := Box.two (Hid.out B0)))
  (((first | replace B1 := Lib.hid (Box.below (Hid.out B1) (Hid.out HB5)) | replace B1 := Lib.hid (Box.below (Box.drew (Hid.out B1)) (Hid.out HB5))); (try clear B1c1 B1c2 B1c3 B1c4); obtain ⟨B1c1, B1c2, B1c3, B1c4⟩ := Box.two (Hid.out B1)))
  (((first | replace B2 := Lib.hid (Box.below (Hid.out B2) (Hid.out HB5)) | replace B2 := Lib.hid (Box.below (Box.drew (Hid.out B2)) (Hid.out HB5))); (try clear B2c1 B2c2 B2c3 B2c4); obtain ⟨B2c1, B2c2, B2c3, B2c4⟩ := Box.two (Hid.out B2)))
  go_wp2_with fail
  refine (signed_own _ na _ _ _ z (by rw [val_digs, val_digs]; exact HZ.out) HO.out).mono ?_
  rintro e w6 ⟨v6, rfl, ⟨s6, rfl, hO6⟩, hB6⟩
  obtain ⟨A6, c6, rfl, -, -⟩ := hO6.reads
  have HO6 := Lib.hid hO6
  have HB6 := Lib.hid hB6
  clear hO6 hB6
  (((first | replace B2 := Lib.hid (Box.below (Hid.out B2) (Hid.out HB6)) | replace B2 := Lib.hid (Box.below (Box.drew (Hid.out B2)) (Hid.out HB6))); (try clear B2c1 B2c2 B2c3 B2c4); obtain ⟨B2c1, B2c2, B2c3, B2c4⟩ := Box.two (Hid.out B2)))
  go_wp2_with fail
  have hb2 := (B2.out.set 0 (.bool (decide (z < 0)))).set 1 (.slice A6 (digs z.natAbs).length c6)
  have s4 := hB4w.out.size
  have s5 := HB5.out.size
  have s6 := HB6.out.size
  have hw6 : Below w.heap.size w w6 := (hB4w.out.trans (HB5.out.mono s4)).trans (HB6.out.mono (by omega))
  refine bodyPost_ret (v := .agg #[.bool (decide (z < 0)), .slice A6 (digs z.natAbs).length c6]) (result_var rfl (g := w.heap.size + 1 + 1) rfl (load_int2 _ _ _ _ hb2)) rfl ⟨_, bs, rfl, OwnI.set2 ⟨_, rfl, HO6.out⟩ B2.out (by decide) _ _, ?_, by ((repeat (first | assumption | exact Below.refl _ _ | refine Below.drew ?_ | refine below_drewN ?_ _ | refine Below.alloc' ?_ _ | refine Below.setCell ?_ (by first | omega | (dsimp only; omega) | (simp; done) | (simp; omega)) _ | refine Below.alloc ?_ (by first | assumption | exact Nat.le_refl _ | omega | (simp; done) | (simp; omega)) _)))⟩
  exact ((HF.out.up s6).up (by simp)).low s4

set_option maxRecDepth 100000 in
set_option maxHeartbeats 4000000 in
theorem plus_lt (w : World) (na nb : Bool) (A A' : Option Addr) (c c' a b : Nat) (hx : Parts w A (digs a)) (hy : Parts w A' (digs b)) (hc : (digs a).length ≤ c) (hc' : (digs b).length ≤ c') (hne : na ≠ nb) (hle : a < b) (z : Int) (hz : z = if nb then -((b - a : Nat) : Int) else ((b - a : Nat) : Int)) :
    Calls Tryz.prog 96 #[.agg #[.bool na, .slice A (digs a).length c], .agg #[.bool nb, .slice A' (digs b).length c']] w fun e w' => ∃ v bs, e = .returned v ∧ OwnI w' v z bs ∧ Fresh w.heap.size w' bs ∧ Below w.heap.size w w' := by
  have hcm : decide (cmpN (fval (digs a)) (fval (digs b)) < 0) = true := decide_eq_true (by rw [fval_digs, fval_digs, cmpN_lt hle]; omega)
  have HX := Lib.hid hx
  have HY := Lib.hid hy
  have HZ := Lib.hid hz
  clear hx hy hz
  obtain ⟨w3, h3, hB, b0, b1, b2⟩ := boxes3 w 105 105 34 #[.bool na, .slice A (digs a).length c] #[.bool nb, .slice A' (digs b).length c'] #[.bool false, .slice none 0 0]
  have H3 := Lib.hid h3
  have HB := Lib.hid hB
  have B0 := Lib.hid b0
  have B1 := Lib.hid b1
  have B2 := Lib.hid b2
  clear h3 hB b0 b1 b2
  have hne' : (na == nb) = false := by cases na <;> cases nb <;> simp_all
  go_enter Tryz.func96, Tryz.ntmps96
  go_wp2_with fail
  rw [← H3.out]
  refine (cmp_calls _ _ _ _ _ (digs a) (digs b) (HX.out.below HB.out) (HY.out.below HB.out) hc hc').mono ?_
  rintro e w4 ⟨rfl, hB4⟩
  have HB4 := Lib.hid hB4
  clear hB4
  (((first | replace B0 := Lib.hid (Box.below (Hid.out B0) (Hid.out HB4)) | replace B0 := Lib.hid (Box.below (Box.drew (Hid.out B0)) (Hid.out HB4))); (try clear B0c1 B0c2 B0c3 B0c4); obtain ⟨B0c1, B0c2, B0c3, B0c4⟩ := Box.two (Hid.out B0)))
  (((first | replace B1 := Lib.hid (Box.below (Hid.out B1) (Hid.out HB4)) | replace B1 := Lib.hid (Box.below (Box.drew (Hid.out B1)) (Hid.out HB4))); (try clear B1c1 B1c2 B1c3 B1c4); obtain ⟨B1c1, B1c2, B1c3, B1c4⟩ := Box.two (Hid.out B1)))
  (((first | replace B2 := Lib.hid (Box.below (Hid.out B2) (Hid.out HB4)) | replace B2 := Lib.hid (Box.below (Box.drew (Hid.out B2)) (Hid.out HB4))); (try clear B2c1 B2c2 B2c3 B2c4); obtain ⟨B2c1, B2c2, B2c3, B2c4⟩ := Box.two (Hid.out B2)))
  have hB4w := Lib.hid (HB.out.trans (HB4.out.mono HB.out.size))
  go_wp2_with fail
  have hb4 := hB4w.out
  obtain ⟨w7, h7⟩ : ∃ w7, w7 = (((w4.setCell ⟨w.heap.size, 0, none⟩ (.bool nb)).setCell ⟨w.heap.size, 1, none⟩ (.slice A' (digs b).length c')).setCell ⟨w.heap.size + 1, 0, none⟩ (.bool na)).setCell ⟨w.heap.size + 1, 1, none⟩ (.slice A (digs a).length c) := ⟨_, rfl⟩
  have HB7 : Hid (Below w.heap.size w w7) := by rw [h7]; show Below _ _ _; ((repeat (first | assumption | exact Below.refl _ _ | refine Below.drew ?_ | refine below_drewN ?_ _ | refine Below.alloc' ?_ _ | refine Below.setCell ?_ (by first | omega | (dsimp only; omega) | (simp; done) | (simp; omega)) _ | refine Below.alloc ?_ (by first | assumption | exact Nat.le_refl _ | omega | (simp; done) | (simp; omega)) _)))
  have B0' : Hid (Box w7 w.heap.size 105 #[.bool nb, .slice A' (digs b).length c']) := by
    rw [h7]; exact (((B0.out.set 0 _).set 1 _).far (by simp) _).far (by simp) _
  have B2' : Hid (Box w7 (w.heap.size + 1 + 1) 34 #[.bool false, .slice none 0 0]) := by
    rw [h7]; exact (((B2.out.far (by dsimp only; omega) _).far (by dsimp only; omega) _).far (by simp) _).far (by simp) _
  rw [← h7]
  clear h7 hb4 B0 B1 B2
  refine (sub_calls _ _ _ _ _ (digs b) (digs a) (HY.out.below HB7.out) (HX.out.below HB7.out) hc' hc (okL_digs _) (okL_digs _) (by rw [val_digs, val_digs]; omega)).mono ?_
  rintro e w5 ⟨v, bs, rfl, hO, hF, hB5⟩
  have HO := Lib.hid hO; have HB5 := Lib.hid hB5; have HF := Lib.hid hF
  clear hO hB5 hF
  (((first | replace B0' := Lib.hid (Box.below (Hid.out B0') (Hid.out HB5)) | replace B0' := Lib.hid (Box.below (Box.drew (Hid.out B0')) (Hid.out HB5))); (try clear B0'c1 B0'c2 B0'c3 B0'c4); obtain ⟨B0'c1, B0'c2, B0'c3, B0'c4⟩ := Box.two (Hid.out B0')))
  (((first | replace B2' := Lib.hid (Box.below (Hid.out B2') (Hid.out HB5)) | replace B2' := Lib.hid (Box.below (Box.drew (Hid.out B2')) (Hid.out HB5))); (try clear B2'c1 B2'c2 B2'c3 B2'c4); obtain ⟨B2'c1, B2'c2, B2'c3, B2'c4⟩ := Box.two (Hid.out B2')))
  go_wp2_with fail
  refine (signed_own _ nb _ _ _ z (by rw [val_digs, val_digs]; exact HZ.out) HO.out).mono ?_
  rintro e w6 ⟨v6, rfl, ⟨s6, rfl, hO6⟩, hB6⟩
  obtain ⟨A6, c6, rfl, -, -⟩ := hO6.reads
  have HO6 := Lib.hid hO6
  have HB6 := Lib.hid hB6
  clear hO6 hB6
  (((first | replace B2' := Lib.hid (Box.below (Hid.out B2') (Hid.out HB6)) | replace B2' := Lib.hid (Box.below (Box.drew (Hid.out B2')) (Hid.out HB6))); (try clear B2'c1 B2'c2 B2'c3 B2'c4); obtain ⟨B2'c1, B2'c2, B2'c3, B2'c4⟩ := Box.two (Hid.out B2')))
  go_wp2_with fail
  have hb2 := (B2'.out.set 0 (.bool (decide (z < 0)))).set 1 (.slice A6 (digs z.natAbs).length c6)
  have s4 := HB7.out.size
  have s5 := HB5.out.size
  have s6 := HB6.out.size
  have hw6 : Below w.heap.size w w6 := (HB7.out.trans (HB5.out.mono s4)).trans (HB6.out.mono (by omega))
  refine bodyPost_ret (v := .agg #[.bool (decide (z < 0)), .slice A6 (digs z.natAbs).length c6]) (result_var rfl (g := w.heap.size + 1 + 1) rfl (load_int2 _ _ _ _ hb2)) rfl ⟨_, bs, rfl, OwnI.set2 ⟨_, rfl, HO6.out⟩ B2'.out (by decide) _ _, ?_, by ((repeat (first | assumption | exact Below.refl _ _ | refine Below.drew ?_ | refine below_drewN ?_ _ | refine Below.alloc' ?_ _ | refine Below.setCell ?_ (by first | omega | (dsimp only; omega) | (simp; done) | (simp; omega)) _ | refine Below.alloc ?_ (by first | assumption | exact Nat.le_refl _ | omega | (simp; done) | (simp; omega)) _)))⟩
  exact ((HF.out.up s6).up (by simp)).low s4

theorem plus_calls (w : World) (v1 v2 : Value) (x y : Int) {B : Nat} (hx : RInt B w v1 x) (hy : RInt B w v2 y) (hsz : (digs x.natAbs).length + (digs y.natAbs).length ≤ 17592186044416) :
    Calls Tryz.prog 96 #[v1, v2] w fun e w' => ∃ v bs, e = .returned v ∧ OwnI w' v (x + y) bs ∧ Fresh w.heap.size w' bs ∧ Below w.heap.size w w' := by
  obtain ⟨A, c, rfl, hc, hp⟩ := hx
  obtain ⟨A', c', rfl, hc', hp'⟩ := hy
  by_cases hs : decide (x < 0) = decide (y < 0)
  · rw [← hs]
    refine plus_same w _ A A' c c' _ _ hp.1 hp'.1 hc hc' hsz (x + y) ?_
    rw [decide_eq_decide] at hs
    by_cases h : x < 0
    · have := hs.1 h; simp [h]; omega
    · have : ¬ y < 0 := fun h' => h (hs.2 h')
      simp [h]; omega
  · have hs' : ¬ (x < 0 ↔ y < 0) := fun h => hs (decide_eq_decide.2 h)
    rcases Nat.lt_or_ge x.natAbs y.natAbs with h | h
    · refine plus_lt w _ _ A A' c c' _ _ hp.1 hp'.1 hc hc' hs h (x + y) ?_
      by_cases h1 : x < 0
      · have h2 : ¬ y < 0 := fun h2 => hs' ⟨fun _ => h2, fun _ => h1⟩
        simp [h2]; omega
      · have h2 : y < 0 := Classical.byContradiction fun h2 => hs' ⟨fun h => absurd h h1, fun h => absurd h h2⟩
        simp [h2]; omega
    · refine plus_ge w _ _ A A' c c' _ _ hp.1 hp'.1 hc hc' hs h (x + y) ?_
      by_cases h1 : x < 0
      · have h2 : ¬ y < 0 := fun h2 => hs' ⟨fun _ => h2, fun _ => h1⟩
        simp [h1]; omega
      · have h2 : y < 0 := Classical.byContradiction fun h2 => hs' ⟨fun h => absurd h h1, fun h => absurd h h2⟩
        simp [h1]; omega

end Go.Proofs.YthofbikhomnjpaaGreatDoor
