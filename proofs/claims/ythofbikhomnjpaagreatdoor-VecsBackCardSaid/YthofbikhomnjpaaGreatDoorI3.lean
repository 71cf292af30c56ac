import Derived.Test.YthofbikhomnjpaaGreatDoorI2
namespace Go.Proofs.YthofbikhomnjpaaGreatDoor
open Go.RowKit
set_option linter.unusedVariables false
set_option linter.unusedSimpArgs false

/-- Where the parts of an argument lie, said in a later world. -/
theorem PartsAt.hop {B : Nat} {w w' : World} {A : Option Addr} {xs : List Nat} (h : PartsAt B w A xs) (hb : Below w.heap.size w w') : PartsAt B w' A xs := h.below hb

set_option maxRecDepth 100000 in
set_option maxHeartbeats 4000000 in
theorem iadd_calls (w : World) (v1 v2 : Value) (x y : Int) {B : Nat} (hx : RInt B w v1 x) (hy : RInt B w v2 y) (hBw : B ≤ w.heap.size) (hsz : (digs x.natAbs).length + (digs y.natAbs).length ≤ 17592186044416) :
    Calls Tryz.prog 61 #[v1, v2] w fun e w' => ∃ v bs, e = .returned v ∧ OwnI w' v (x + y) bs ∧ Fresh w.heap.size w' bs ∧ Below w.heap.size w w' := by
  obtain ⟨A, c, rfl, -, -⟩ := id hx
  obtain ⟨A', c', rfl, -, -⟩ := id hy
  have HX := Lib.hid hx
  have HY := Lib.hid hy
  obtain ⟨z, hz⟩ : ∃ z, z = x + y := ⟨_, rfl⟩
  have HZ := Lib.hid hz
  rw [← hz]
  clear hx hy hz
  obtain ⟨w3, h3, hB, b0, b1, b2⟩ := boxes3 w 34 34 34 #[.bool (decide (x < 0)), .slice A (digs x.natAbs).length c] #[.bool (decide (y < 0)), .slice A' (digs y.natAbs).length c'] #[.bool false, .slice none 0 0]
  have H3 := Lib.hid h3
  have HB := Lib.hid hB
  have B0 := Lib.hid b0
  have B1 := Lib.hid b1
  have B2 := Lib.hid b2
  clear h3 hB b0 b1 b2
  have s3 := HB.out.size
  have s3e : B ≤ w3.heap.size := Nat.le_trans hBw s3
  have s3d : B ≤ w3.drew.heap.size := Nat.le_trans hBw s3
  go_enter Tryz.func61, Tryz.ntmps61
  go_wp2_with fail
  rw [← H3.out]
  (((try clear B0c1 B0c2 B0c3 B0c4); obtain ⟨B0c1, B0c2, B0c3, B0c4⟩ := Box.two (Hid.out B0)))
  (((try clear B1c1 B1c2 B1c3 B1c4); obtain ⟨B1c1, B1c2, B1c3, B1c4⟩ := Box.two (Hid.out B1)))
  go_region_held3 (fun w' => w'.cell? ⟨w.heap.size, 0, none⟩ = some (.bool (decide (x < 0))) ∧ w'.cell? ⟨w.heap.size, 1, none⟩ = some (.slice A (digs x.natAbs).length c) ∧ w'.cell? ⟨w.heap.size + 1, 0, none⟩ = some (.bool (decide (y < 0))) ∧ w'.cell? ⟨w.heap.size + 1, 1, none⟩ = some (.slice A' (digs y.natAbs).length c')) (first | (((repeat' apply And.intro) <;> (repeat (first | assumption | refine cell_alloc ?_ | refine cell_far ?_ (by first | omega | (dsimp only; omega) | (simp; done) | (simp; omega)))))) | go_keep) (first
    | (go_at_call 78; ((with_reducible refine (iof_reads _ _ x (B := B) (HX.out.below (by first | exact HB.out.drew | exact HB.out)) (by first | exact s3d | exact s3e)).mono ?_); rintro e w4 ⟨v4, rfl, hp4, hB4⟩; obtain ⟨A4, c4, rfl, -, -⟩ := id hp4; have HP4 := Lib.hid hp4; have HB4 := Lib.hid hB4; clear hp4 hB4; (((first | replace B0 := Lib.hid (Box.below (Hid.out B0) (Hid.out HB4)) | replace B0 := Lib.hid (Box.below (Box.drew (Hid.out B0)) (Hid.out HB4))); (try clear B0c1 B0c2 B0c3 B0c4); obtain ⟨B0c1, B0c2, B0c3, B0c4⟩ := Box.two (Hid.out B0))); (((first | replace B1 := Lib.hid (Box.below (Hid.out B1) (Hid.out HB4)) | replace B1 := Lib.hid (Box.below (Box.drew (Hid.out B1)) (Hid.out HB4))); (try clear B1c1 B1c2 B1c3 B1c4); obtain ⟨B1c1, B1c2, B1c3, B1c4⟩ := Box.two (Hid.out B1))); (((first | replace B2 := Lib.hid (Box.below (Hid.out B2) (Hid.out HB4)) | replace B2 := Lib.hid (Box.below (Box.drew (Hid.out B2)) (Hid.out HB4))); (try clear B2c1 B2c2 B2c3 B2c4); obtain ⟨B2c1, B2c2, B2c3, B2c4⟩ := Box.two (Hid.out B2)))))
    | (go_at_call 78; ((with_reducible refine (iof_reads _ _ y (B := B) ((HY.out.below (by first | exact HB.out.drew | exact HB.out)).below HB4.out) (by first | exact Nat.le_trans s3d HB4.out.size | exact Nat.le_trans s3e HB4.out.size)).mono ?_); rintro e w5 ⟨v5, rfl, hp5, hB5⟩; obtain ⟨A5, c5, rfl, -, -⟩ := id hp5; have HP5 := Lib.hid hp5; have HB5 := Lib.hid hB5; clear hp5 hB5; (((first | replace B0 := Lib.hid (Box.below (Hid.out B0) (Hid.out HB5)) | replace B0 := Lib.hid (Box.below (Box.drew (Hid.out B0)) (Hid.out HB5))); (try clear B0c1 B0c2 B0c3 B0c4); obtain ⟨B0c1, B0c2, B0c3, B0c4⟩ := Box.two (Hid.out B0))); (((first | replace B1 := Lib.hid (Box.below (Hid.out B1) (Hid.out HB5)) | replace B1 := Lib.hid (Box.below (Box.drew (Hid.out B1)) (Hid.out HB5))); (try clear B1c1 B1c2 B1c3 B1c4); obtain ⟨B1c1, B1c2, B1c3, B1c4⟩ := Box.two (Hid.out B1))); (((first | replace B2 := Lib.hid (Box.below (Hid.out B2) (Hid.out HB5)) | replace B2 := Lib.hid (Box.below (Box.drew (Hid.out B2)) (Hid.out HB5))); (try clear B2c1 B2c2 B2c3 B2c4); obtain ⟨B2c1, B2c2, B2c3, B2c4⟩ := Box.two (Hid.out B2)))))
    | (go_at_call 96; ((with_reducible refine (plus_calls _ _ _ x y (B := B) (HP4.out.below HB5.out) HP5.out hsz).mono ?_); rw [← HZ.out]; rintro e w6 ⟨v6, bs, rfl, ⟨s6, rfl, hO6⟩, hF6, hB6⟩; obtain ⟨A6, c6, rfl, -, -⟩ := hO6.reads; have HO6 := Lib.hid hO6; have HB6 := Lib.hid hB6; have HF6 := Lib.hid hF6; clear hO6 hB6 hF6; (((first | replace B0 := Lib.hid (Box.below (Hid.out B0) (Hid.out HB6)) | replace B0 := Lib.hid (Box.below (Box.drew (Hid.out B0)) (Hid.out HB6))); (try clear B0c1 B0c2 B0c3 B0c4); obtain ⟨B0c1, B0c2, B0c3, B0c4⟩ := Box.two (Hid.out B0))); (((first | replace B1 := Lib.hid (Box.below (Hid.out B1) (Hid.out HB6)) | replace B1 := Lib.hid (Box.below (Box.drew (Hid.out B1)) (Hid.out HB6))); (try clear B1c1 B1c2 B1c3 B1c4); obtain ⟨B1c1, B1c2, B1c3, B1c4⟩ := Box.two (Hid.out B1))); (((first | replace B2 := Lib.hid (Box.below (Hid.out B2) (Hid.out HB6)) | replace B2 := Lib.hid (Box.below (Box.drew (Hid.out B2)) (Hid.out HB6))); (try clear B2c1 B2c2 B2c3 B2c4); obtain ⟨B2c1, B2c2, B2c3, B2c4⟩ := Box.two (Hid.out B2))))))
  go_wp2_with fail
  have hb2 := (B2.out.set 0 (.bool (decide (z < 0)))).set 1 (.slice A6 (digs z.natAbs).length c6)
  have s4 : w3.heap.size ≤ w4.heap.size := HB4.out.size
  have s5 := HB5.out.size
  have s6 := HB6.out.size
  have hw6 : Below w.heap.size w w6 := ((HB.out.drew.trans (HB4.out.mono s3)).trans (HB5.out.mono (by omega))).trans (HB6.out.mono (by omega))
  refine bodyPost_ret (v := .agg #[.bool (decide (z < 0)), .slice A6 (digs z.natAbs).length c6]) (result_var rfl (g := w.heap.size + 1 + 1) rfl (load_int2 _ _ _ _ hb2)) rfl ⟨_, bs, rfl, OwnI.set2 ⟨_, rfl, HO6.out⟩ B2.out (by decide) _ _, ?_, by ((repeat (first | assumption | exact Below.refl _ _ | refine Below.drew ?_ | refine below_drewN ?_ _ | refine Below.alloc' ?_ _ | refine Below.setCell ?_ (by first | omega | (dsimp only; omega) | (simp; done) | (simp; omega)) _ | refine Below.alloc ?_ (by first | assumption | exact Nat.le_refl _ | omega | (simp; done) | (simp; omega)) _)))⟩
  exact (HF6.out.up (by simp)).low (by omega)

set_option maxRecDepth 100000 in
set_option maxHeartbeats 4000000 in
theorem isub_calls (w : World) (v1 v2 : Value) (x y : Int) {B : Nat} (hx : RInt B w v1 x) (hy : RInt B w v2 y) (hBw : B ≤ w.heap.size) (hsz : (digs x.natAbs).length + (digs y.natAbs).length ≤ 17592186044416) :
    Calls Tryz.prog 67 #[v1, v2] w fun e w' => ∃ v bs, e = .returned v ∧ OwnI w' v (x - y) bs ∧ Fresh w.heap.size w' bs ∧ Below w.heap.size w w' := by
  obtain ⟨A, c, rfl, -, -⟩ := id hx
  obtain ⟨A', c', rfl, -, -⟩ := id hy
  have HX := Lib.hid hx
  have HY := Lib.hid hy
  obtain ⟨z, hz⟩ : ∃ z, z = x - y := ⟨_, rfl⟩
  rw [← hz]
  obtain ⟨y', hy'⟩ : ∃ y', y' = -y := ⟨_, rfl⟩
  have hsz' : (digs x.natAbs).length + (digs y'.natAbs).length ≤ 17592186044416 := by rw [hy', Int.natAbs_neg]; exact hsz
  have hz' : z = x + y' := by omega
  have HZ := Lib.hid hz'
  have HY' := Lib.hid hy'
  clear hx hy hz hz' hy'
  obtain ⟨w3, h3, hB, b0, b1, b2⟩ := boxes3 w 34 34 34 #[.bool (decide (x < 0)), .slice A (digs x.natAbs).length c] #[.bool (decide (y < 0)), .slice A' (digs y.natAbs).length c'] #[.bool false, .slice none 0 0]
  have H3 := Lib.hid h3
  have HB := Lib.hid hB
  have B0 := Lib.hid b0
  have B1 := Lib.hid b1
  have B2 := Lib.hid b2
  clear h3 hB b0 b1 b2
  have s3 := HB.out.size
  have s3e : B ≤ w3.heap.size := Nat.le_trans hBw s3
  have s3d : B ≤ w3.drew.heap.size := Nat.le_trans hBw s3
  go_enter Tryz.func67, Tryz.ntmps67
  go_wp2_with fail
  rw [← H3.out]
  (((try clear B0c1 B0c2 B0c3 B0c4); obtain ⟨B0c1, B0c2, B0c3, B0c4⟩ := Box.two (Hid.out B0)))
  (((try clear B1c1 B1c2 B1c3 B1c4); obtain ⟨B1c1, B1c2, B1c3, B1c4⟩ := Box.two (Hid.out B1)))
  go_region_held3 (fun w' => w'.cell? ⟨w.heap.size, 0, none⟩ = some (.bool (decide (x < 0))) ∧ w'.cell? ⟨w.heap.size, 1, none⟩ = some (.slice A (digs x.natAbs).length c) ∧ w'.cell? ⟨w.heap.size + 1, 0, none⟩ = some (.bool (decide (y < 0))) ∧ w'.cell? ⟨w.heap.size + 1, 1, none⟩ = some (.slice A' (digs y.natAbs).length c')) (first | (((repeat' apply And.intro) <;> (repeat (first | assumption | refine cell_alloc ?_ | refine cell_far ?_ (by first | omega | (dsimp only; omega) | (simp; done) | (simp; omega)))))) | go_keep) (first
    | (go_at_call 78; ((with_reducible refine (iof_reads _ _ x (B := B) (HX.out.below (by first | exact HB.out.drew | exact HB.out)) (by first | exact s3d | exact s3e)).mono ?_); rintro e w4 ⟨v4, rfl, hp4, hB4⟩; obtain ⟨A4, c4, rfl, -, -⟩ := id hp4; have HP4 := Lib.hid hp4; have HB4 := Lib.hid hB4; clear hp4 hB4; (((first | replace B0 := Lib.hid (Box.below (Hid.out B0) (Hid.out HB4)) | replace B0 := Lib.hid (Box.below (Box.drew (Hid.out B0)) (Hid.out HB4))); (try clear B0c1 B0c2 B0c3 B0c4); obtain ⟨B0c1, B0c2, B0c3, B0c4⟩ := Box.two (Hid.out B0))); (((first | replace B1 := Lib.hid (Box.below (Hid.out B1) (Hid.out HB4)) | replace B1 := Lib.hid (Box.below (Box.drew (Hid.out B1)) (Hid.out HB4))); (try clear B1c1 B1c2 B1c3 B1c4); obtain ⟨B1c1, B1c2, B1c3, B1c4⟩ := Box.two (Hid.out B1))); (((first | replace B2 := Lib.hid (Box.below (Hid.out B2) (Hid.out HB4)) | replace B2 := Lib.hid (Box.below (Box.drew (Hid.out B2)) (Hid.out HB4))); (try clear B2c1 B2c2 B2c3 B2c4); obtain ⟨B2c1, B2c2, B2c3, B2c4⟩ := Box.two (Hid.out B2)))))
    | (go_at_call 78; ((with_reducible refine (iof_reads _ _ y (B := B) ((HY.out.below (by first | exact HB.out.drew | exact HB.out)).below HB4.out) (by first | exact Nat.le_trans s3d HB4.out.size | exact Nat.le_trans s3e HB4.out.size)).mono ?_); rintro e w5 ⟨v5, rfl, hp5, hB5⟩; obtain ⟨A5, c5, rfl, -, -⟩ := id hp5; have HP5 := Lib.hid hp5; have HB5 := Lib.hid hB5; clear hp5 hB5; (((first | replace B0 := Lib.hid (Box.below (Hid.out B0) (Hid.out HB5)) | replace B0 := Lib.hid (Box.below (Box.drew (Hid.out B0)) (Hid.out HB5))); (try clear B0c1 B0c2 B0c3 B0c4); obtain ⟨B0c1, B0c2, B0c3, B0c4⟩ := Box.two (Hid.out B0))); (((first | replace B1 := Lib.hid (Box.below (Hid.out B1) (Hid.out HB5)) | replace B1 := Lib.hid (Box.below (Box.drew (Hid.out B1)) (Hid.out HB5))); (try clear B1c1 B1c2 B1c3 B1c4); obtain ⟨B1c1, B1c2, B1c3, B1c4⟩ := Box.two (Hid.out B1))); (((first | replace B2 := Lib.hid (Box.below (Hid.out B2) (Hid.out HB5)) | replace B2 := Lib.hid (Box.below (Box.drew (Hid.out B2)) (Hid.out HB5))); (try clear B2c1 B2c2 B2c3 B2c4); obtain ⟨B2c1, B2c2, B2c3, B2c4⟩ := Box.two (Hid.out B2)))))
    | (go_at_call 97; ((with_reducible refine (turned_calls _ _ y (B := B) HP5.out (by first | exact Nat.le_trans s3d (Nat.le_trans HB4.out.size HB5.out.size) | exact Nat.le_trans s3e (Nat.le_trans HB4.out.size HB5.out.size))).mono ?_); rw [← HY'.out]; rintro e w7 ⟨v7, rfl, hp7, hB7⟩; obtain ⟨A7, c7, rfl, -, -⟩ := id hp7; have HP7 := Lib.hid hp7; have HB7 := Lib.hid hB7; clear hp7 hB7; (((first | replace B0 := Lib.hid (Box.below (Hid.out B0) (Hid.out HB7)) | replace B0 := Lib.hid (Box.below (Box.drew (Hid.out B0)) (Hid.out HB7))); (try clear B0c1 B0c2 B0c3 B0c4); obtain ⟨B0c1, B0c2, B0c3, B0c4⟩ := Box.two (Hid.out B0))); (((first | replace B1 := Lib.hid (Box.below (Hid.out B1) (Hid.out HB7)) | replace B1 := Lib.hid (Box.below (Box.drew (Hid.out B1)) (Hid.out HB7))); (try clear B1c1 B1c2 B1c3 B1c4); obtain ⟨B1c1, B1c2, B1c3, B1c4⟩ := Box.two (Hid.out B1))); (((first | replace B2 := Lib.hid (Box.below (Hid.out B2) (Hid.out HB7)) | replace B2 := Lib.hid (Box.below (Box.drew (Hid.out B2)) (Hid.out HB7))); (try clear B2c1 B2c2 B2c3 B2c4); obtain ⟨B2c1, B2c2, B2c3, B2c4⟩ := Box.two (Hid.out B2)))))
    | (go_at_call 96; ((with_reducible refine (plus_calls _ _ _ x y' (B := B) ((HP4.out.below HB5.out).below HB7.out) HP7.out hsz').mono ?_); rw [← HZ.out]; rintro e w6 ⟨v6, bs, rfl, ⟨s6, rfl, hO6⟩, hF6, hB6⟩; obtain ⟨A6, c6, rfl, -, -⟩ := hO6.reads; have HO6 := Lib.hid hO6; have HB6 := Lib.hid hB6; have HF6 := Lib.hid hF6; clear hO6 hB6 hF6; (((first | replace B0 := Lib.hid (Box.below (Hid.out B0) (Hid.out HB6)) | replace B0 := Lib.hid (Box.below (Box.drew (Hid.out B0)) (Hid.out HB6))); (try clear B0c1 B0c2 B0c3 B0c4); obtain ⟨B0c1, B0c2, B0c3, B0c4⟩ := Box.two (Hid.out B0))); (((first | replace B1 := Lib.hid (Box.below (Hid.out B1) (Hid.out HB6)) | replace B1 := Lib.hid (Box.below (Box.drew (Hid.out B1)) (Hid.out HB6))); (try clear B1c1 B1c2 B1c3 B1c4); obtain ⟨B1c1, B1c2, B1c3, B1c4⟩ := Box.two (Hid.out B1))); (((first | replace B2 := Lib.hid (Box.below (Hid.out B2) (Hid.out HB6)) | replace B2 := Lib.hid (Box.below (Box.drew (Hid.out B2)) (Hid.out HB6))); (try clear B2c1 B2c2 B2c3 B2c4); obtain ⟨B2c1, B2c2, B2c3, B2c4⟩ := Box.two (Hid.out B2))))))
  go_wp2_with fail
  have hb2 := (B2.out.set 0 (.bool (decide (z < 0)))).set 1 (.slice A6 (digs z.natAbs).length c6)
  have s4 : w3.heap.size ≤ w4.heap.size := HB4.out.size
  have s5 := HB5.out.size
  have s7 := HB7.out.size
  have s6 := HB6.out.size
  have hw6 : Below w.heap.size w w6 := (((HB.out.drew.trans (HB4.out.mono s3)).trans (HB5.out.mono (by omega))).trans (HB7.out.mono (by omega))).trans (HB6.out.mono (by omega))
  refine bodyPost_ret (v := .agg #[.bool (decide (z < 0)), .slice A6 (digs z.natAbs).length c6]) (result_var rfl (g := w.heap.size + 1 + 1) rfl (load_int2 _ _ _ _ hb2)) rfl ⟨_, bs, rfl, OwnI.set2 ⟨_, rfl, HO6.out⟩ B2.out (by decide) _ _, ?_, by ((repeat (first | assumption | exact Below.refl _ _ | refine Below.drew ?_ | refine below_drewN ?_ _ | refine Below.alloc' ?_ _ | refine Below.setCell ?_ (by first | omega | (dsimp only; omega) | (simp; done) | (simp; omega)) _ | refine Below.alloc ?_ (by first | assumption | exact Nat.le_refl _ | omega | (simp; done) | (simp; omega)) _)))⟩
  exact (HF6.out.up (by simp)).low (by omega)

end Go.Proofs.YthofbikhomnjpaaGreatDoor
