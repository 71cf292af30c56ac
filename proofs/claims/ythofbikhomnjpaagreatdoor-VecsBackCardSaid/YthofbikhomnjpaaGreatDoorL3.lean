import Derived.Test.YthofbikhomnjpaaGreatDoorL2
namespace Go.Proofs.YthofbikhomnjpaaGreatDoor
open Go.RowKit
set_option linter.unusedVariables false
set_option linter.unusedSimpArgs false

def ri (ns : List Int) : List Rat := ns.map fun n : Int => (n : Rat)
theorem ri_fits {ns : List Int} (h : ∀ n ∈ ns, n.natAbs < 4294967296) : FitsAll 1 (ri ns) := by
  intro q hq
  obtain ⟨n, hn, rfl⟩ := List.mem_map.1 hq
  exact fits_int (h n hn)
theorem ints_new (w : World) (a : List Int) : IntsAt (w.alloc (.cells (a.map fun n => Value.int .i64 n).toArray 2)) w.heap.size a := fun i hi => by
  rw [(Box.new w _ _).cell i]
  simp [List.getElem?_eq_getElem hi]
theorem VecOf.nil (B : Nat) (w : World) : VecOf B w (.slice none 0 0) [] := ⟨none, 0, rfl, Nat.le_refl _, RatsAt.nil _ _ _⟩
/-- A list of one fraction that may not be: no parts at all. -/
theorem odd_one (w : World) (B : Nat) : RatsAt B (w.alloc (.cells #[.bool false, .slice none 0 0, .slice none 0 0] 36)) (some ⟨w.heap.size, 0, none⟩) [⟨false, [], []⟩] := by
  have hb := Box.new w 36 #[.bool false, .slice none 0 0, .slice none 0 0]
  refine ⟨by decide, fun _ => ⟨w.heap.size, 0, rfl, .inr ⟨_, hb⟩, fun i hi => ?_⟩⟩
  have h0 : i = 0 := by simpa using hi
  subst h0
  exact ⟨_, ⟨_, _, _, rfl, hb.cell 0, hb.cell 1, hb.cell 2⟩, none, 0, none, 0, rfl, Nat.le_refl _, Nat.le_refl _, PartsAt.nil _ _ _, PartsAt.nil _ _ _⟩

theorem odd_le : allLe 1 [⟨false, [], []⟩] := fun i hi => by
  have h0 : i = 0 := by simpa using hi
  rw [h0]
  exact ⟨Nat.zero_le _, Nat.zero_le _⟩
theorem of04_one (w : World) (a : Int) (h : -9223372036854775808 ≤ a ∧ a ≤ 9223372036854775807) (B : Nat) :
    Calls Tryz.prog 46 #[.slice (some ⟨w.heap.size, 0, none⟩) 1 1] (w.alloc (.cells #[.int .i64 a] 2)) fun e w' => ∃ v, e = .returned v ∧ VecOf B w' v (ri [a]) ∧ Below w.heap.size w w' := by
  refine (of04_calls (w.alloc (.cells #[.int .i64 a] 2)) w.heap.size 1 [a] (ints_new w [a]) (by intro n hn; rw [List.mem_singleton] at hn; rw [hn]; exact h) (by simp) B).mono ?_
  rintro e w' ⟨v, rfl, hv, hb⟩
  exact ⟨v, rfl, hv, Below.on (Below.alloc' (Below.refl _ _) _) hb⟩
theorem of04_two (w : World) (a b : Int) (h : (-9223372036854775808 ≤ a ∧ a ≤ 9223372036854775807) ∧ -9223372036854775808 ≤ b ∧ b ≤ 9223372036854775807) (B : Nat) :
    Calls Tryz.prog 46 #[.slice (some ⟨w.heap.size, 0, none⟩) 2 2] (w.alloc (.cells #[.int .i64 a, .int .i64 b] 2)) fun e w' => ∃ v, e = .returned v ∧ VecOf B w' v (ri [a, b]) ∧ Below w.heap.size w w' := by
  refine (of04_calls (w.alloc (.cells #[.int .i64 a, .int .i64 b] 2)) w.heap.size 2 [a, b] (ints_new w [a, b]) (by intro n hn; simp at hn; rcases hn with rfl | rfl; exact h.1; exact h.2) (by simp) B).mono ?_
  rintro e w' ⟨v, rfl, hv, hb⟩
  exact ⟨v, rfl, hv, Below.on (Below.alloc' (Below.refl _ _) _) hb⟩

set_option maxRecDepth 100000 in
set_option maxHeartbeats 8000000 in
theorem alive04_calls (w : World) (hT : Tab w) :
    Calls Tryz.prog 18 #[] w fun e w' => e = .returned (.bool true) ∧ Below w.heap.size w w' := by
  have HT := Lib.hid hT
  clear hT
  go_enter Tryz.func18, Tryz.ntmps18
  go_wp2_with fail
  refine (of04_two _ 1 2 (by decide) 0).mono ?_
  rintro e w1 ⟨v1, rfl, hV1, hB1⟩
  have V1 := Lib.hid hV1
  have hB : Below w.heap.size w w1 := hB1
  clear hV1
  go_wp2_with fail
  refine (of04_two _ 3 4 (by decide) 0).mono ?_
  rintro e w2 ⟨v2, rfl, hV2, hB2⟩
  have V2 := Lib.hid hV2
  clear hV2
  (replace V1 := Lib.hid (VecOf.below (VecOf.below (Hid.out V1) (by ((repeat (first | assumption | exact Below.refl _ _ | refine Below.drew ?_ | refine below_drewN ?_ _ | refine Below.alloc' ?_ _ | refine Below.setCell ?_ (by first | omega | (dsimp only; omega) | (simp; done) | (simp; omega)) _ | refine Below.alloc ?_ (by first | assumption | exact Nat.le_refl _ | omega | (simp; done) | (simp; omega)) _))))) hB2))
  ((replace hB := Below.on (Below.on hB (by ((repeat (first | assumption | exact Below.refl _ _ | refine Below.drew ?_ | refine below_drewN ?_ _ | refine Below.alloc' ?_ _ | refine Below.setCell ?_ (by first | omega | (dsimp only; omega) | (simp; done) | (simp; omega)) _ | refine Below.alloc ?_ (by first | assumption | exact Nat.le_refl _ | omega | (simp; done) | (simp; omega)) _))))) hB2; have := Below.size hB))
  go_wp2_with fail
  refine (dot_vec _ _ _ _ _ 1 V1.out V2.out (HT.out.below hB) (Nat.zero_le _) (ri_fits (by decide)) (ri_fits (by decide)) (by decide) (by decide)).mono ?_
  rintro e w3 ⟨-, hd, hB3⟩
  obtain ⟨vd, rfl, hr⟩ := hd rfl
  rw [show dotR (ri [1, 2]) (ri [3, 4]) = 11 by decide +kernel] at hr
  obtain ⟨Ad, cd, Ad', cd', rfl, -, -⟩ := raw11 hr
  have RD := Lib.hid hr
  ((replace hB := Below.on (Below.on hB (by ((repeat (first | assumption | exact Below.refl _ _ | refine Below.drew ?_ | refine below_drewN ?_ _ | refine Below.alloc' ?_ _ | refine Below.setCell ?_ (by first | omega | (dsimp only; omega) | (simp; done) | (simp; omega)) _ | refine Below.alloc ?_ (by first | assumption | exact Nat.le_refl _ | omega | (simp; done) | (simp; omega)) _))))) hB3; have := Below.size hB))
  clear hd hr V1 V2
  go_wp2_with fail
  -- the second one: of lists that are not as long
  obtain ⟨w4, h4⟩ : ∃ w4, w4 = w3.alloc (.cells #[.bool false, .slice Ad 1 cd, .slice Ad' 1 cd'] 36) := ⟨_, rfl⟩
  have X1 : Hid (Box w4 w3.heap.size 36 #[.bool false, .slice Ad 1 cd, .slice Ad' 1 cd']) := by rw [h4]; exact Box.new _ _ _
  have hB4 : Below w3.heap.size w3 w4 := by rw [h4]; ((repeat (first | assumption | exact Below.refl _ _ | refine Below.drew ?_ | refine below_drewN ?_ _ | refine Below.alloc' ?_ _ | refine Below.setCell ?_ (by first | omega | (dsimp only; omega) | (simp; done) | (simp; omega)) _ | refine Below.alloc ?_ (by first | assumption | exact Nat.le_refl _ | omega | (simp; done) | (simp; omega)) _)))
  have hs4 : w4.heap.size = w3.heap.size + 1 := by rw [h4]; simp
  rw [← h4, ← hs4]
  have HS4 := Lib.hid hs4
  clear h4 hs4
  (replace RD := Lib.hid (RawAt.below (RawAt.below (Hid.out RD) (by ((repeat (first | assumption | exact Below.refl _ _ | refine Below.drew ?_ | refine below_drewN ?_ _ | refine Below.alloc' ?_ _ | refine Below.setCell ?_ (by first | omega | (dsimp only; omega) | (simp; done) | (simp; omega)) _ | refine Below.alloc ?_ (by first | assumption | exact Nat.le_refl _ | omega | (simp; done) | (simp; omega)) _))))) hB4))
  ((replace hB := Below.on (Below.on hB (by ((repeat (first | assumption | exact Below.refl _ _ | refine Below.drew ?_ | refine below_drewN ?_ _ | refine Below.alloc' ?_ _ | refine Below.setCell ?_ (by first | omega | (dsimp only; omega) | (simp; done) | (simp; omega)) _ | refine Below.alloc ?_ (by first | assumption | exact Nat.le_refl _ | omega | (simp; done) | (simp; omega)) _))))) hB4; have := Below.size hB))
  refine (of04_one w4 1 (by decide) 0).mono ?_
  rintro e w5 ⟨v5, rfl, hV5, hB5⟩
  have V5 := Lib.hid hV5
  clear hV5
  replace X1 := Lib.hid (X1.out.below hB5)
  (replace RD := Lib.hid (RawAt.below (RawAt.below (Hid.out RD) (by ((repeat (first | assumption | exact Below.refl _ _ | refine Below.drew ?_ | refine below_drewN ?_ _ | refine Below.alloc' ?_ _ | refine Below.setCell ?_ (by first | omega | (dsimp only; omega) | (simp; done) | (simp; omega)) _ | refine Below.alloc ?_ (by first | assumption | exact Nat.le_refl _ | omega | (simp; done) | (simp; omega)) _))))) hB5))
  ((replace hB := Below.on (Below.on hB (by ((repeat (first | assumption | exact Below.refl _ _ | refine Below.drew ?_ | refine below_drewN ?_ _ | refine Below.alloc' ?_ _ | refine Below.setCell ?_ (by first | omega | (dsimp only; omega) | (simp; done) | (simp; omega)) _ | refine Below.alloc ?_ (by first | assumption | exact Nat.le_refl _ | omega | (simp; done) | (simp; omega)) _))))) hB5; have := Below.size hB))
  go_wp2_with fail
  refine (dot_vec _ _ _ _ _ 1 V5.out (VecOf.nil 0 _) (HT.out.below hB) (Nat.zero_le _) (ri_fits (by decide)) (by intro q hq; cases hq) (by decide) (by decide)).mono ?_
  rintro e w6 ⟨he, -, hB6⟩
  obtain rfl := he (by decide)
  replace X1 := Lib.hid (X1.out.below hB6)
  (replace RD := Lib.hid (RawAt.below (RawAt.below (Hid.out RD) (by ((repeat (first | assumption | exact Below.refl _ _ | refine Below.drew ?_ | refine below_drewN ?_ _ | refine Below.alloc' ?_ _ | refine Below.setCell ?_ (by first | omega | (dsimp only; omega) | (simp; done) | (simp; omega)) _ | refine Below.alloc ?_ (by first | assumption | exact Nat.le_refl _ | omega | (simp; done) | (simp; omega)) _))))) hB6))
  ((replace hB := Below.on (Below.on hB (by ((repeat (first | assumption | exact Below.refl _ _ | refine Below.drew ?_ | refine below_drewN ?_ _ | refine Below.alloc' ?_ _ | refine Below.setCell ?_ (by first | omega | (dsimp only; omega) | (simp; done) | (simp; omega)) _ | refine Below.alloc ?_ (by first | assumption | exact Nat.le_refl _ | omega | (simp; done) | (simp; omega)) _))))) hB6; have := Below.size hB))
  clear he V5
  go_wp2_with fail
  -- the third one: of a fraction that may not be
  obtain ⟨w7, h7⟩ : ∃ w7, w7 = (w6.alloc (.cells #[.bool false, .slice none 0 0, .slice none 0 0] 36)).alloc (.cells #[.bool false, .slice none 0 0, .slice none 0 0] 36) := ⟨_, rfl⟩
  have OD : Hid (RatsAt 0 w7 (some ⟨w6.heap.size + 1, 0, none⟩) [⟨false, [], []⟩]) := by rw [h7]; show RatsAt _ _ _ _; have := odd_one (w6.alloc (.cells #[.bool false, .slice none 0 0, .slice none 0 0] 36)) 0; simpa using this
  have hB7 : Below w6.heap.size w6 w7 := by rw [h7]; ((repeat (first | assumption | exact Below.refl _ _ | refine Below.drew ?_ | refine below_drewN ?_ _ | refine Below.alloc' ?_ _ | refine Below.setCell ?_ (by first | omega | (dsimp only; omega) | (simp; done) | (simp; omega)) _ | refine Below.alloc ?_ (by first | assumption | exact Nat.le_refl _ | omega | (simp; done) | (simp; omega)) _)))
  have hs7 : w7.heap.size = w6.heap.size + 1 + 1 := by rw [h7]; simp
  rw [← h7, ← hs7]
  have HS7 := Lib.hid hs7
  clear h7 hs7
  replace X1 := Lib.hid (X1.out.below hB7)
  (replace RD := Lib.hid (RawAt.below (RawAt.below (Hid.out RD) (by ((repeat (first | assumption | exact Below.refl _ _ | refine Below.drew ?_ | refine below_drewN ?_ _ | refine Below.alloc' ?_ _ | refine Below.setCell ?_ (by first | omega | (dsimp only; omega) | (simp; done) | (simp; omega)) _ | refine Below.alloc ?_ (by first | assumption | exact Nat.le_refl _ | omega | (simp; done) | (simp; omega)) _))))) hB7))
  ((replace hB := Below.on (Below.on hB (by ((repeat (first | assumption | exact Below.refl _ _ | refine Below.drew ?_ | refine below_drewN ?_ _ | refine Below.alloc' ?_ _ | refine Below.setCell ?_ (by first | omega | (dsimp only; omega) | (simp; done) | (simp; omega)) _ | refine Below.alloc ?_ (by first | assumption | exact Nat.le_refl _ | omega | (simp; done) | (simp; omega)) _))))) hB7; have := Below.size hB))
  refine (of04_one w7 1 (by decide) 0).mono ?_
  rintro e w8 ⟨v8, rfl, hV8, hB8⟩
  obtain ⟨A8, c8, rfl, hc8, hr8⟩ := hV8
  have V8 := Lib.hid hr8
  clear hr8
  replace OD := Lib.hid (OD.out.below hB8)
  replace X1 := Lib.hid (X1.out.below hB8)
  (replace RD := Lib.hid (RawAt.below (RawAt.below (Hid.out RD) (by ((repeat (first | assumption | exact Below.refl _ _ | refine Below.drew ?_ | refine below_drewN ?_ _ | refine Below.alloc' ?_ _ | refine Below.setCell ?_ (by first | omega | (dsimp only; omega) | (simp; done) | (simp; omega)) _ | refine Below.alloc ?_ (by first | assumption | exact Nat.le_refl _ | omega | (simp; done) | (simp; omega)) _))))) hB8))
  ((replace hB := Below.on (Below.on hB (by ((repeat (first | assumption | exact Below.refl _ _ | refine Below.drew ?_ | refine below_drewN ?_ _ | refine Below.alloc' ?_ _ | refine Below.setCell ?_ (by first | omega | (dsimp only; omega) | (simp; done) | (simp; omega)) _ | refine Below.alloc ?_ (by first | assumption | exact Nat.le_refl _ | omega | (simp; done) | (simp; omega)) _))))) hB8; have := Below.size hB))
  have hod := dot_odd w8 (some ⟨w6.heap.size + 1, 0, none⟩) A8 1 c8 [⟨false, [], []⟩] ((ri [1]).map rawOf) 1 OD.out V8.out (by decide) (by rw [List.length_map]; exact hc8) (HT.out.below hB) (Nat.zero_le _) odd_le (ri_fits (by decide)).le (by decide) (by decide) (.inl (by decide))
  have HOD := Lib.hid hod
  clear hod
  go_wp2_with fail
  refine HOD.out.mono ?_
  rintro e w9 ⟨rfl, hB9⟩
  replace X1 := Lib.hid (X1.out.below hB9)
  (replace RD := Lib.hid (RawAt.below (RawAt.below (Hid.out RD) (by ((repeat (first | assumption | exact Below.refl _ _ | refine Below.drew ?_ | refine below_drewN ?_ _ | refine Below.alloc' ?_ _ | refine Below.setCell ?_ (by first | omega | (dsimp only; omega) | (simp; done) | (simp; omega)) _ | refine Below.alloc ?_ (by first | assumption | exact Nat.le_refl _ | omega | (simp; done) | (simp; omega)) _))))) hB9))
  ((replace hB := Below.on (Below.on hB (by ((repeat (first | assumption | exact Below.refl _ _ | refine Below.drew ?_ | refine below_drewN ?_ _ | refine Below.alloc' ?_ _ | refine Below.setCell ?_ (by first | omega | (dsimp only; omega) | (simp; done) | (simp; omega)) _ | refine Below.alloc ?_ (by first | assumption | exact Nat.le_refl _ | omega | (simp; done) | (simp; omega)) _))))) hB9; have := Below.size hB))
  clear HOD V8 OD
  go_wp2_with fail
  -- the fourth one: a sum
  obtain ⟨w10, h10⟩ : ∃ w10, w10 = w9.alloc (.cells #[.bool false, .slice none 0 0, .slice none 0 0] 36) := ⟨_, rfl⟩
  have hB10 : Below w9.heap.size w9 w10 := by rw [h10]; ((repeat (first | assumption | exact Below.refl _ _ | refine Below.drew ?_ | refine below_drewN ?_ _ | refine Below.alloc' ?_ _ | refine Below.setCell ?_ (by first | omega | (dsimp only; omega) | (simp; done) | (simp; omega)) _ | refine Below.alloc ?_ (by first | assumption | exact Nat.le_refl _ | omega | (simp; done) | (simp; omega)) _)))
  have hs10 : w10.heap.size = w9.heap.size + 1 := by rw [h10]; simp
  rw [← h10, ← hs10]
  have HS10 := Lib.hid hs10
  clear h10 hs10
  replace X1 := Lib.hid (X1.out.below hB10)
  (replace RD := Lib.hid (RawAt.below (RawAt.below (Hid.out RD) (by ((repeat (first | assumption | exact Below.refl _ _ | refine Below.drew ?_ | refine below_drewN ?_ _ | refine Below.alloc' ?_ _ | refine Below.setCell ?_ (by first | omega | (dsimp only; omega) | (simp; done) | (simp; omega)) _ | refine Below.alloc ?_ (by first | assumption | exact Nat.le_refl _ | omega | (simp; done) | (simp; omega)) _))))) hB10))
  ((replace hB := Below.on (Below.on hB (by ((repeat (first | assumption | exact Below.refl _ _ | refine Below.drew ?_ | refine below_drewN ?_ _ | refine Below.alloc' ?_ _ | refine Below.setCell ?_ (by first | omega | (dsimp only; omega) | (simp; done) | (simp; omega)) _ | refine Below.alloc ?_ (by first | assumption | exact Nat.le_refl _ | omega | (simp; done) | (simp; omega)) _))))) hB10; have := Below.size hB))
  refine (of04_two w10 1 2 (by decide) 0).mono ?_
  rintro e w11 ⟨v11, rfl, hV11, hB11⟩
  have V11 := Lib.hid hV11
  clear hV11
  replace X1 := Lib.hid (X1.out.below hB11)
  (replace RD := Lib.hid (RawAt.below (RawAt.below (Hid.out RD) (by ((repeat (first | assumption | exact Below.refl _ _ | refine Below.drew ?_ | refine below_drewN ?_ _ | refine Below.alloc' ?_ _ | refine Below.setCell ?_ (by first | omega | (dsimp only; omega) | (simp; done) | (simp; omega)) _ | refine Below.alloc ?_ (by first | assumption | exact Nat.le_refl _ | omega | (simp; done) | (simp; omega)) _))))) hB11))
  ((replace hB := Below.on (Below.on hB (by ((repeat (first | assumption | exact Below.refl _ _ | refine Below.drew ?_ | refine below_drewN ?_ _ | refine Below.alloc' ?_ _ | refine Below.setCell ?_ (by first | omega | (dsimp only; omega) | (simp; done) | (simp; omega)) _ | refine Below.alloc ?_ (by first | assumption | exact Nat.le_refl _ | omega | (simp; done) | (simp; omega)) _))))) hB11; have := Below.size hB))
  go_wp2_with fail
  refine (of04_two _ 3 4 (by decide) 0).mono ?_
  rintro e w12 ⟨v12, rfl, hV12, hB12⟩
  have V12 := Lib.hid hV12
  clear hV12
  (replace V11 := Lib.hid (VecOf.below (VecOf.below (Hid.out V11) (by ((repeat (first | assumption | exact Below.refl _ _ | refine Below.drew ?_ | refine below_drewN ?_ _ | refine Below.alloc' ?_ _ | refine Below.setCell ?_ (by first | omega | (dsimp only; omega) | (simp; done) | (simp; omega)) _ | refine Below.alloc ?_ (by first | assumption | exact Nat.le_refl _ | omega | (simp; done) | (simp; omega)) _))))) hB12))
  replace X1 := Lib.hid (X1.out.below hB12)
  (replace RD := Lib.hid (RawAt.below (RawAt.below (Hid.out RD) (by ((repeat (first | assumption | exact Below.refl _ _ | refine Below.drew ?_ | refine below_drewN ?_ _ | refine Below.alloc' ?_ _ | refine Below.setCell ?_ (by first | omega | (dsimp only; omega) | (simp; done) | (simp; omega)) _ | refine Below.alloc ?_ (by first | assumption | exact Nat.le_refl _ | omega | (simp; done) | (simp; omega)) _))))) hB12))
  ((replace hB := Below.on (Below.on hB (by ((repeat (first | assumption | exact Below.refl _ _ | refine Below.drew ?_ | refine below_drewN ?_ _ | refine Below.alloc' ?_ _ | refine Below.setCell ?_ (by first | omega | (dsimp only; omega) | (simp; done) | (simp; omega)) _ | refine Below.alloc ?_ (by first | assumption | exact Nat.le_refl _ | omega | (simp; done) | (simp; omega)) _))))) hB12; have := Below.size hB))
  go_wp2_with fail
  refine (rofn_calls _ 2 (by decide) (by decide)).mono ?_
  rintro e w13 ⟨v13, b13, rfl, hO13, -, hB13⟩
  have Q13 := Lib.hid (hO13.reads 0)
  clear hO13
  (replace V11 := Lib.hid (VecOf.below (VecOf.below (Hid.out V11) (by ((repeat (first | assumption | exact Below.refl _ _ | refine Below.drew ?_ | refine below_drewN ?_ _ | refine Below.alloc' ?_ _ | refine Below.setCell ?_ (by first | omega | (dsimp only; omega) | (simp; done) | (simp; omega)) _ | refine Below.alloc ?_ (by first | assumption | exact Nat.le_refl _ | omega | (simp; done) | (simp; omega)) _))))) hB13))
  (replace V12 := Lib.hid (VecOf.below (VecOf.below (Hid.out V12) (by ((repeat (first | assumption | exact Below.refl _ _ | refine Below.drew ?_ | refine below_drewN ?_ _ | refine Below.alloc' ?_ _ | refine Below.setCell ?_ (by first | omega | (dsimp only; omega) | (simp; done) | (simp; omega)) _ | refine Below.alloc ?_ (by first | assumption | exact Nat.le_refl _ | omega | (simp; done) | (simp; omega)) _))))) hB13))
  replace X1 := Lib.hid (X1.out.below hB13)
  (replace RD := Lib.hid (RawAt.below (RawAt.below (Hid.out RD) (by ((repeat (first | assumption | exact Below.refl _ _ | refine Below.drew ?_ | refine below_drewN ?_ _ | refine Below.alloc' ?_ _ | refine Below.setCell ?_ (by first | omega | (dsimp only; omega) | (simp; done) | (simp; omega)) _ | refine Below.alloc ?_ (by first | assumption | exact Nat.le_refl _ | omega | (simp; done) | (simp; omega)) _))))) hB13))
  ((replace hB := Below.on (Below.on hB (by ((repeat (first | assumption | exact Below.refl _ _ | refine Below.drew ?_ | refine below_drewN ?_ _ | refine Below.alloc' ?_ _ | refine Below.setCell ?_ (by first | omega | (dsimp only; omega) | (simp; done) | (simp; omega)) _ | refine Below.alloc ?_ (by first | assumption | exact Nat.le_refl _ | omega | (simp; done) | (simp; omega)) _))))) hB13; have := Below.size hB))
  go_wp2_with fail
  refine (add_vec _ _ _ _ _ _ _ 1 V11.out V12.out Q13.out (HT.out.below hB) (Nat.zero_le _) (ri_fits (by decide)) (ri_fits (by decide)) (fits_int (by decide)) (by decide) (by decide) rfl (rawOf_ok _)).mono ?_
  rw [rawOf_q, show addR (ri [1, 2]) (ri [3, 4]) ((2 : Int) : Rat) = ri [7, 10] by decide +kernel]
  rintro e w14 ⟨v14, rfl, hV14, hB14⟩
  have V14 := Lib.hid hV14
  clear hV14 V11 V12 Q13
  replace X1 := Lib.hid (X1.out.below hB14)
  (replace RD := Lib.hid (RawAt.below (RawAt.below (Hid.out RD) (by ((repeat (first | assumption | exact Below.refl _ _ | refine Below.drew ?_ | refine below_drewN ?_ _ | refine Below.alloc' ?_ _ | refine Below.setCell ?_ (by first | omega | (dsimp only; omega) | (simp; done) | (simp; omega)) _ | refine Below.alloc ?_ (by first | assumption | exact Nat.le_refl _ | omega | (simp; done) | (simp; omega)) _))))) hB14))
  ((replace hB := Below.on (Below.on hB (by ((repeat (first | assumption | exact Below.refl _ _ | refine Below.drew ?_ | refine below_drewN ?_ _ | refine Below.alloc' ?_ _ | refine Below.setCell ?_ (by first | omega | (dsimp only; omega) | (simp; done) | (simp; omega)) _ | refine Below.alloc ?_ (by first | assumption | exact Nat.le_refl _ | omega | (simp; done) | (simp; omega)) _))))) hB14; have := Below.size hB))
  (((try clear X1c1 X1c2 X1c3 X1c4 X1c5 X1c6); obtain ⟨X1c1, X1c2, X1c3, X1c4, X1c5, X1c6⟩ := Box.three (Hid.out X1)))
  go_wp2_with fail
  -- the answer: one after the other
  refine (rtext11_calls _ _ RD.out (HT.out.below hB) (Nat.zero_le _)).mono ?_
  rintro e w15 ⟨rfl, hB15⟩
  clear RD X1 X1c1 X1c2 X1c3 X1c4 X1c5 X1c6
  (replace V14 := Lib.hid (VecOf.below (VecOf.below (Hid.out V14) (by ((repeat (first | assumption | exact Below.refl _ _ | refine Below.drew ?_ | refine below_drewN ?_ _ | refine Below.alloc' ?_ _ | refine Below.setCell ?_ (by first | omega | (dsimp only; omega) | (simp; done) | (simp; omega)) _ | refine Below.alloc ?_ (by first | assumption | exact Nat.le_refl _ | omega | (simp; done) | (simp; omega)) _))))) hB15))
  ((replace hB := Below.on (Below.on hB (by ((repeat (first | assumption | exact Below.refl _ _ | refine Below.drew ?_ | refine below_drewN ?_ _ | refine Below.alloc' ?_ _ | refine Below.setCell ?_ (by first | omega | (dsimp only; omega) | (simp; done) | (simp; omega)) _ | refine Below.alloc ?_ (by first | assumption | exact Nat.le_refl _ | omega | (simp; done) | (simp; omega)) _))))) hB15; have := Below.size hB))
  go_wp2_with fail
  refine (of04_two _ 7 10 (by decide) 0).mono ?_
  rintro e w16 ⟨v16, rfl, hV16, hB16⟩
  have V16 := Lib.hid hV16
  clear hV16
  (replace V14 := Lib.hid (VecOf.below (VecOf.below (Hid.out V14) (by ((repeat (first | assumption | exact Below.refl _ _ | refine Below.drew ?_ | refine below_drewN ?_ _ | refine Below.alloc' ?_ _ | refine Below.setCell ?_ (by first | omega | (dsimp only; omega) | (simp; done) | (simp; omega)) _ | refine Below.alloc ?_ (by first | assumption | exact Nat.le_refl _ | omega | (simp; done) | (simp; omega)) _))))) hB16))
  ((replace hB := Below.on (Below.on hB (by ((repeat (first | assumption | exact Below.refl _ _ | refine Below.drew ?_ | refine below_drewN ?_ _ | refine Below.alloc' ?_ _ | refine Below.setCell ?_ (by first | omega | (dsimp only; omega) | (simp; done) | (simp; omega)) _ | refine Below.alloc ?_ (by first | assumption | exact Nat.le_refl _ | omega | (simp; done) | (simp; omega)) _))))) hB16; have := Below.size hB))
  go_wp2_with fail
  refine (same_vec _ _ _ _ _ 1 V14.out V16.out (HT.out.below hB) (Nat.zero_le _) (ri_fits (by decide)) (ri_fits (by decide)) (by decide) (by decide)).mono ?_
  rw [decide_eq_true rfl]
  rintro e w17 ⟨rfl, hB17⟩
  ((replace hB := Below.on (Below.on hB (by ((repeat (first | assumption | exact Below.refl _ _ | refine Below.drew ?_ | refine below_drewN ?_ _ | refine Below.alloc' ?_ _ | refine Below.setCell ?_ (by first | omega | (dsimp only; omega) | (simp; done) | (simp; omega)) _ | refine Below.alloc ?_ (by first | assumption | exact Nat.le_refl _ | omega | (simp; done) | (simp; omega)) _))))) hB17; have := Below.size hB))
  clear V14 V16
  go_wp2_with fail
  refine (of04_two _ 1 3 (by decide) 0).mono ?_
  rintro e w18 ⟨v18, rfl, hV18, hB18⟩
  have V18 := Lib.hid hV18
  clear hV18
  ((replace hB := Below.on (Below.on hB (by ((repeat (first | assumption | exact Below.refl _ _ | refine Below.drew ?_ | refine below_drewN ?_ _ | refine Below.alloc' ?_ _ | refine Below.setCell ?_ (by first | omega | (dsimp only; omega) | (simp; done) | (simp; omega)) _ | refine Below.alloc ?_ (by first | assumption | exact Nat.le_refl _ | omega | (simp; done) | (simp; omega)) _))))) hB18; have := Below.size hB))
  go_wp2_with fail
  refine (rofn_calls _ (-2) (by decide) (by decide)).mono ?_
  rintro e w19 ⟨v19, b19, rfl, hO19, -, hB19⟩
  have Q19 := Lib.hid (hO19.reads 0)
  clear hO19
  (replace V18 := Lib.hid (VecOf.below (VecOf.below (Hid.out V18) (by ((repeat (first | assumption | exact Below.refl _ _ | refine Below.drew ?_ | refine below_drewN ?_ _ | refine Below.alloc' ?_ _ | refine Below.setCell ?_ (by first | omega | (dsimp only; omega) | (simp; done) | (simp; omega)) _ | refine Below.alloc ?_ (by first | assumption | exact Nat.le_refl _ | omega | (simp; done) | (simp; omega)) _))))) hB19))
  ((replace hB := Below.on (Below.on hB (by ((repeat (first | assumption | exact Below.refl _ _ | refine Below.drew ?_ | refine below_drewN ?_ _ | refine Below.alloc' ?_ _ | refine Below.setCell ?_ (by first | omega | (dsimp only; omega) | (simp; done) | (simp; omega)) _ | refine Below.alloc ?_ (by first | assumption | exact Nat.le_refl _ | omega | (simp; done) | (simp; omega)) _))))) hB19; have := Below.size hB))
  go_wp2_with fail
  refine (scale_vec _ _ _ _ _ 1 V18.out Q19.out (HT.out.below hB) (Nat.zero_le _) (ri_fits (by decide)) (fits_int (by decide)) (by decide) (by decide)).mono ?_
  rw [rawOf_q, show (ri [1, 3]).map (· * ((-2 : Int) : Rat)) = ri [-2, -6] by decide +kernel]
  rintro e w20 ⟨v20, rfl, hV20, hB20⟩
  have V20 := Lib.hid hV20
  clear hV20 V18 Q19
  ((replace hB := Below.on (Below.on hB (by ((repeat (first | assumption | exact Below.refl _ _ | refine Below.drew ?_ | refine below_drewN ?_ _ | refine Below.alloc' ?_ _ | refine Below.setCell ?_ (by first | omega | (dsimp only; omega) | (simp; done) | (simp; omega)) _ | refine Below.alloc ?_ (by first | assumption | exact Nat.le_refl _ | omega | (simp; done) | (simp; omega)) _))))) hB20; have := Below.size hB))
  go_wp2_with fail
  refine (of04_two _ (-2) (-6) (by decide) 0).mono ?_
  rintro e w21 ⟨v21, rfl, hV21, hB21⟩
  have V21 := Lib.hid hV21
  clear hV21
  (replace V20 := Lib.hid (VecOf.below (VecOf.below (Hid.out V20) (by ((repeat (first | assumption | exact Below.refl _ _ | refine Below.drew ?_ | refine below_drewN ?_ _ | refine Below.alloc' ?_ _ | refine Below.setCell ?_ (by first | omega | (dsimp only; omega) | (simp; done) | (simp; omega)) _ | refine Below.alloc ?_ (by first | assumption | exact Nat.le_refl _ | omega | (simp; done) | (simp; omega)) _))))) hB21))
  ((replace hB := Below.on (Below.on hB (by ((repeat (first | assumption | exact Below.refl _ _ | refine Below.drew ?_ | refine below_drewN ?_ _ | refine Below.alloc' ?_ _ | refine Below.setCell ?_ (by first | omega | (dsimp only; omega) | (simp; done) | (simp; omega)) _ | refine Below.alloc ?_ (by first | assumption | exact Nat.le_refl _ | omega | (simp; done) | (simp; omega)) _))))) hB21; have := Below.size hB))
  go_wp2_with fail
  refine (same_vec _ _ _ _ _ 1 V20.out V21.out (HT.out.below hB) (Nat.zero_le _) (ri_fits (by decide)) (ri_fits (by decide)) (by decide) (by decide)).mono ?_
  rw [decide_eq_true rfl]
  rintro e w22 ⟨rfl, hB22⟩
  ((replace hB := Below.on (Below.on hB (by ((repeat (first | assumption | exact Below.refl _ _ | refine Below.drew ?_ | refine below_drewN ?_ _ | refine Below.alloc' ?_ _ | refine Below.setCell ?_ (by first | omega | (dsimp only; omega) | (simp; done) | (simp; omega)) _ | refine Below.alloc ?_ (by first | assumption | exact Nat.le_refl _ | omega | (simp; done) | (simp; omega)) _))))) hB22; have := Below.size hB))
  clear V20 V21
  go_wp2_with fail
  refine (zero_calls _ 2 (by decide) (by decide)).mono ?_
  rintro e w23 ⟨v23, b23, rfl, hO23, hB23⟩
  have V23 : Hid (VecOf 0 w23 v23 (ri [0, 0])) := hO23.vec (by decide) 0
  clear hO23
  ((replace hB := Below.on (Below.on hB (by ((repeat (first | assumption | exact Below.refl _ _ | refine Below.drew ?_ | refine below_drewN ?_ _ | refine Below.alloc' ?_ _ | refine Below.setCell ?_ (by first | omega | (dsimp only; omega) | (simp; done) | (simp; omega)) _ | refine Below.alloc ?_ (by first | assumption | exact Nat.le_refl _ | omega | (simp; done) | (simp; omega)) _))))) hB23; have := Below.size hB))
  go_wp2_with fail
  refine (of04_two _ 0 0 (by decide) 0).mono ?_
  rintro e w24 ⟨v24, rfl, hV24, hB24⟩
  have V24 := Lib.hid hV24
  clear hV24
  (replace V23 := Lib.hid (VecOf.below (VecOf.below (Hid.out V23) (by ((repeat (first | assumption | exact Below.refl _ _ | refine Below.drew ?_ | refine below_drewN ?_ _ | refine Below.alloc' ?_ _ | refine Below.setCell ?_ (by first | omega | (dsimp only; omega) | (simp; done) | (simp; omega)) _ | refine Below.alloc ?_ (by first | assumption | exact Nat.le_refl _ | omega | (simp; done) | (simp; omega)) _))))) hB24))
  ((replace hB := Below.on (Below.on hB (by ((repeat (first | assumption | exact Below.refl _ _ | refine Below.drew ?_ | refine below_drewN ?_ _ | refine Below.alloc' ?_ _ | refine Below.setCell ?_ (by first | omega | (dsimp only; omega) | (simp; done) | (simp; omega)) _ | refine Below.alloc ?_ (by first | assumption | exact Nat.le_refl _ | omega | (simp; done) | (simp; omega)) _))))) hB24; have := Below.size hB))
  go_wp2_with fail
  refine (same_vec _ _ _ _ _ 1 V23.out V24.out (HT.out.below hB) (Nat.zero_le _) (ri_fits (by decide)) (ri_fits (by decide)) (by decide) (by decide)).mono ?_
  rw [decide_eq_true rfl]
  rintro e w25 ⟨rfl, hB25⟩
  ((replace hB := Below.on (Below.on hB (by ((repeat (first | assumption | exact Below.refl _ _ | refine Below.drew ?_ | refine below_drewN ?_ _ | refine Below.alloc' ?_ _ | refine Below.setCell ?_ (by first | omega | (dsimp only; omega) | (simp; done) | (simp; omega)) _ | refine Below.alloc ?_ (by first | assumption | exact Nat.le_refl _ | omega | (simp; done) | (simp; omega)) _))))) hB25; have := Below.size hB))
  clear V23 V24
  go_wp2_with fail
  refine (of04_one _ 1 (by decide) 0).mono ?_
  rintro e w26 ⟨v26, rfl, hV26, hB26⟩
  have V26 := Lib.hid hV26
  clear hV26
  ((replace hB := Below.on (Below.on hB (by ((repeat (first | assumption | exact Below.refl _ _ | refine Below.drew ?_ | refine below_drewN ?_ _ | refine Below.alloc' ?_ _ | refine Below.setCell ?_ (by first | omega | (dsimp only; omega) | (simp; done) | (simp; omega)) _ | refine Below.alloc ?_ (by first | assumption | exact Nat.le_refl _ | omega | (simp; done) | (simp; omega)) _))))) hB26; have := Below.size hB))
  go_wp2_with fail
  refine (of04_two _ 1 2 (by decide) 0).mono ?_
  rintro e w27 ⟨v27, rfl, hV27, hB27⟩
  have V27 := Lib.hid hV27
  clear hV27
  (replace V26 := Lib.hid (VecOf.below (VecOf.below (Hid.out V26) (by ((repeat (first | assumption | exact Below.refl _ _ | refine Below.drew ?_ | refine below_drewN ?_ _ | refine Below.alloc' ?_ _ | refine Below.setCell ?_ (by first | omega | (dsimp only; omega) | (simp; done) | (simp; omega)) _ | refine Below.alloc ?_ (by first | assumption | exact Nat.le_refl _ | omega | (simp; done) | (simp; omega)) _))))) hB27))
  ((replace hB := Below.on (Below.on hB (by ((repeat (first | assumption | exact Below.refl _ _ | refine Below.drew ?_ | refine below_drewN ?_ _ | refine Below.alloc' ?_ _ | refine Below.setCell ?_ (by first | omega | (dsimp only; omega) | (simp; done) | (simp; omega)) _ | refine Below.alloc ?_ (by first | assumption | exact Nat.le_refl _ | omega | (simp; done) | (simp; omega)) _))))) hB27; have := Below.size hB))
  go_wp2_with fail
  refine (same_vec _ _ _ _ _ 1 V26.out V27.out (HT.out.below hB) (Nat.zero_le _) (ri_fits (by decide)) (ri_fits (by decide)) (by decide) (by decide)).mono ?_
  rw [show decide (ri [1] = ri [1, 2]) = false by decide +kernel]
  rintro e w28 ⟨rfl, hB28⟩
  ((replace hB := Below.on (Below.on hB (by ((repeat (first | assumption | exact Below.refl _ _ | refine Below.drew ?_ | refine below_drewN ?_ _ | refine Below.alloc' ?_ _ | refine Below.setCell ?_ (by first | omega | (dsimp only; omega) | (simp; done) | (simp; omega)) _ | refine Below.alloc ?_ (by first | assumption | exact Nat.le_refl _ | omega | (simp; done) | (simp; omega)) _))))) hB28; have := Below.size hB))
  clear V26 V27
  go_wp2_with fail
  have hck := vcheck_calls (w28.alloc (.cells #[.bool false, .slice none 0 0, .slice none 0 0] 36)) (some ⟨w28.heap.size, 0, none⟩) 1 [⟨false, [], []⟩] (odd_one w28 0) (by decide) (HT.out.below (Below.alloc' hB _)) (fun i hi => ⟨Nat.le_trans (odd_le i hi).1 (by decide), Nat.le_trans (odd_le i hi).2 (by decide)⟩)
  rw [show allOk [⟨false, [], []⟩] = false by decide] at hck
  refine Calls.mono hck ?_
  rintro e w29 ⟨rfl, hB29⟩
  have hB30 := Below.on (Below.alloc' hB _) hB29
  clear hck
  go_wp2_with fail
  go_ret
  exact ⟨rfl, hB30⟩

end Go.Proofs.YthofbikhomnjpaaGreatDoor
