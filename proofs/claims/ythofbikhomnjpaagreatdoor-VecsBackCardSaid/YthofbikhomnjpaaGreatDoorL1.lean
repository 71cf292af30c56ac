import Derived.Test.YthofbikhomnjpaaGreatDoorT2
namespace Go.Proofs.YthofbikhomnjpaaGreatDoor
open Go.RowKit
set_option linter.unusedVariables false
set_option linter.unusedSimpArgs false

theorem natsize_calls (w : World) (A : Option Addr) (n c : Nat) :
    Calls Tryz.prog 111 #[.slice A n c] w fun e w' => e = .returned (.int .i64 n) ∧ w' = w := by
  go_enter Tryz.func111, Tryz.ntmps111
  go_wp2
  go_ret
  exact ⟨rfl, rfl⟩

set_option maxRecDepth 100000 in
theorem intsize_calls (w : World) (neg : Bool) (A : Option Addr) (n c : Nat) (hn : n ≤ 35184372088064) :
    Calls Tryz.prog 110 #[.agg #[.bool neg, .slice A n c]] w fun e w' => e = .returned (.int .i64 ((1 : Int) + n)) ∧ Below w.heap.size w w' := by
  obtain ⟨w3, h3, hB, b0⟩ := boxes1 w 34 #[.bool neg, .slice A n c]
  have H3 := Lib.hid h3
  clear h3 b0
  go_enter Tryz.func110, Tryz.ntmps110
  go_wp2_with fail
  rw [← H3.out]
  refine (natsize_calls _ _ _ _).mono ?_
  rintro e w4 ⟨rfl, rfl⟩
  go_wp2_with fail
  go_ret
  exact ⟨rfl, hB⟩

set_option maxRecDepth 100000 in
theorem ratsize_calls (w : World) (v : Value) (r : Raw) {B : Nat} (h : RawAt B w v r) :
    Calls Tryz.prog 86 #[v] w fun e w' => ∃ z : Int, e = .returned (.int .i64 z) ∧ 1 ≤ z ∧ z ≤ 70368744177666 ∧ (z ≤ 1048576 → (r.xs.length : Int) ≤ z ∧ (r.ys.length : Int) ≤ z) ∧ Below w.heap.size w w' := by
  obtain ⟨A, c, A', c', rfl, -, -, hp, hp'⟩ := h
  have hl := hp.1.2.1
  have hl' := hp'.1.2.1
  clear hp hp'
  obtain ⟨w3, h3, hB, b0⟩ := boxes1 w 36 #[.bool r.neg, .slice A r.xs.length c, .slice A' r.ys.length c']
  have H3 := Lib.hid h3
  have B0 := Lib.hid b0
  clear h3 b0
  go_enter Tryz.func86, Tryz.ntmps86
  go_wp2_with fail
  rw [← H3.out]
  refine (intsize_calls _ _ _ _ _ hl).mono ?_
  rintro e w4 ⟨rfl, hB4⟩
  ((replace B0 := Lib.hid (Box.below (Box.below (Hid.out B0) (by ((repeat (first | assumption | exact Below.refl _ _ | refine Below.drew ?_ | refine below_drewN ?_ _ | refine Below.alloc' ?_ _ | refine Below.setCell ?_ (by first | omega | (dsimp only; omega) | (simp; done) | (simp; omega)) _ | refine Below.alloc ?_ (by first | assumption | exact Nat.le_refl _ | omega | (simp; done) | (simp; omega)) _))))) hB4); (try clear B0c1 B0c2 B0c3 B0c4 B0c5 B0c6); obtain ⟨B0c1, B0c2, B0c3, B0c4, B0c5, B0c6⟩ := Box.three (Hid.out B0); have := Box.lt (Hid.out B0)))
  ((replace hB := Below.on (Below.on hB (by ((repeat (first | assumption | exact Below.refl _ _ | refine Below.drew ?_ | refine below_drewN ?_ _ | refine Below.alloc' ?_ _ | refine Below.setCell ?_ (by first | omega | (dsimp only; omega) | (simp; done) | (simp; omega)) _ | refine Below.alloc ?_ (by first | assumption | exact Nat.le_refl _ | omega | (simp; done) | (simp; omega)) _))))) hB4; have := Below.size hB))
  by_cases hb : (1 : Int) + ((1 : Int) + r.xs.length) ≤ 1048576
  · go_wp2_with fail
    refine (natsize_calls _ _ _ _).mono ?_
    rintro e w5 ⟨rfl, rfl⟩
    go_wp2_with fail
    go_ret
    exact ⟨(1 : Int) + ((1 : Int) + r.xs.length) + r.ys.length, by first | rfl | (simp; omega), by omega, by omega, fun _ => ⟨by omega, by omega⟩, hB⟩
  · go_wp2_with fail
    go_ret
    exact ⟨(1 : Int) + ((1 : Int) + r.xs.length), by first | rfl | (simp; omega), by omega, by omega, fun h => absurd h (by omega), hB⟩

set_option maxRecDepth 100000 in
set_option maxHeartbeats 4000000 in
theorem ratssize_calls (w : World) (A : Option Addr) (c : Nat) (rs : List Raw) {B : Nat} (h : RatsAt B w A rs) (hc : rs.length ≤ c) :
    Calls Tryz.prog 48 #[.slice A rs.length c] w fun e w' => ∃ z : Int, e = .returned (.int .i64 z) ∧ (z ≤ 1048576 → 0 ≤ z ∧ (rs.length : Int) ≤ z ∧ allLe z.toNat rs) ∧ Below w.heap.size w w' := by
  have hl := h.1
  have H := Lib.hid h
  clear h
  go_enter Tryz.func48, Tryz.ntmps48
  go_wp2_with fail
  go_loopw [3, 4] (fun s i wr => ∃ (j : Nat) (z : Int), j ≤ rs.length ∧ i = .int .i64 j ∧ s = .int .i64 z ∧ (rs.length : Int) ≤ z ∧ z ≤ 2513169434900 + 70368744177666 ∧ Below w.heap.size w wr ∧ Hid (∀ i, i < j → z ≤ 1048576 → ((raw rs i).xs.length : Int) ≤ z ∧ ((raw rs i).ys.length : Int) ≤ z)) (fun s i _ => rs.length - (intOf i).toNat)
  case atStart => exact ⟨0, rs.length, by omega, rfl, rfl, by omega, by omega, by ((repeat (first | assumption | exact Below.refl _ _ | refine Below.drew ?_ | refine below_drewN ?_ _ | refine Below.alloc' ?_ _ | refine Below.setCell ?_ (by first | omega | (dsimp only; omega) | (simp; done) | (simp; omega)) _ | refine Below.alloc ?_ (by first | assumption | exact Nat.le_refl _ | omega | (simp; done) | (simp; omega)) _))), fun i hi => absurd hi (by omega)⟩
  case round =>
    obtain ⟨j, z, hj, rfl, rfl, hz1, hz2, hb, HN⟩ := hrel
    by_cases hlt : j < rs.length
    · by_cases hz : z ≤ 1048576
      · obtain ⟨b, o, A1, d1, A2, d2, rfl, k1, k2, k3, -, k4⟩ := H.out.val hlt hb
        have K4 := Lib.hid k4
        clear k4
        go_wp2_with fail
        refine (ratsize_calls _ _ (raw rs j) K4.out).mono ?_
        rintro e w1 ⟨y, rfl, hy1, hy2, hy3, hB1⟩
        ((replace hb := Below.on (Below.on hb (by ((repeat (first | assumption | exact Below.refl _ _ | refine Below.drew ?_ | refine below_drewN ?_ _ | refine Below.alloc' ?_ _ | refine Below.setCell ?_ (by first | omega | (dsimp only; omega) | (simp; done) | (simp; omega)) _ | refine Below.alloc ?_ (by first | assumption | exact Nat.le_refl _ | omega | (simp; done) | (simp; omega)) _))))) hB1; have := Below.size hb))
        have HN' : Hid (∀ i, i < j + 1 → z + y ≤ 1048576 → ((raw rs i).xs.length : Int) ≤ z + y ∧ ((raw rs i).ys.length : Int) ≤ z + y) := fun i hi hzy => by
          by_cases h : i = j
          · rw [h]; have := hy3 (by omega); omega
          · have := HN.out i (by omega) (by omega); omega
        clear hy3
        go_wp2_with fail
        go_roundw
        case rel => exact ⟨j + 1, z + y, by omega, rfl, by first | rfl | (simp; omega), by omega, by omega, hb, HN'⟩
        case measure => simp [intOf]; omega
      · go_wp2_with fail
        go_ret
        exact ⟨z, rfl, fun h => absurd h (by omega), hb⟩
    · go_wp2_with fail
      go_ret
      refine ⟨z, rfl, fun h => ⟨by omega, hz1, fun i hi => ?_⟩, hb⟩
      have := HN.out i (by omega) h
      exact ⟨by omega, by omega⟩

end Go.Proofs.YthofbikhomnjpaaGreatDoor
