import Derived.Test.YthofbikhomnjpaaGreatDoorL4
import Derived.Test.YthofbikhomnjpaaGreatDoorQ1
import Derived.BigQuiet
namespace Go.Proofs.YthofbikhomnjpaaGreatDoor
open Go.RowKit
set_option linter.unusedVariables false
set_option linter.unusedSimpArgs false

set_option maxRecDepth 100000 in
set_option maxHeartbeats 4000000 in
theorem samenat_calls (w : World) (A A' : Option Addr) (c c' : Nat) (xs : List Nat) (h : Parts w A xs) (h' : Parts w A' xs) :
    Calls Tryz.prog 58 #[.slice A xs.length c, .slice A' xs.length c'] w fun e w' => e = .returned (.bool true) ∧ Below w.heap.size w w' := by
  have hl := h.2.1
  have H := Lib.hid h
  have H' := Lib.hid h'
  clear h h'
  go_enter Tryz.func58, Tryz.ntmps58
  go_wp2_with fail
  go_loopw [5] (fun i wr => ∃ (j : Nat), j ≤ xs.length ∧ i = .int .i64 j ∧ Below w.heap.size w wr) (fun i _ => xs.length - (intOf i).toNat)
  case atStart => exact ⟨0, by omega, rfl, Below.refl _ _⟩
  case round =>
    obtain ⟨j, hj, rfl, hb⟩ := hrel
    by_cases hlt : j < xs.length
    · obtain ⟨b, o, rfl, hc⟩ := (H.out.below hb).2.2 (by omega)
      obtain ⟨b', o', rfl, hc'⟩ := (H'.out.below hb).2.2 (by omega)
      have k1 := hc j hlt
      have k2 := hc' j hlt
      clear hc hc'
      go_wp2_with fail
      go_quiet (fail)
      go_wp2_with fail
      go_roundw
      case rel => exact ⟨j + 1, by omega, rfl, below_drewN hb _⟩
      case measure => simp [intOf]; omega
    · have hjn : j = xs.length := by omega
      go_wp2_with fail
      go_ret
      exact ⟨rfl, hb⟩

set_option maxRecDepth 100000 in
theorem sameint_calls (w : World) (A A' : Option Addr) (neg : Bool) (c c' : Nat) (xs : List Nat) (h : Parts w A xs) (h' : Parts w A' xs) :
    Calls Tryz.prog 57 #[.agg #[.bool neg, .slice A xs.length c], .agg #[.bool neg, .slice A' xs.length c']] w fun e w' => e = .returned (.bool true) ∧ Below w.heap.size w w' := by
  have H := Lib.hid h
  have H' := Lib.hid h'
  clear h h'
  obtain ⟨w3, h3, hB, b0, b1⟩ := boxes2 w 34 34 #[.bool neg, .slice A xs.length c] #[.bool neg, .slice A' xs.length c']
  have H3 := Lib.hid h3
  clear h3 b0 b1
  go_enter Tryz.func57, Tryz.ntmps57
  go_wp2_with fail
  rw [← H3.out]
  refine (samenat_calls _ _ _ _ _ xs (H.out.below hB) (H'.out.below hB)).mono ?_
  rintro e w4 ⟨rfl, hB4⟩
  ((replace hB := Below.on (Below.on hB (by ((repeat (first | assumption | exact Below.refl _ _ | refine Below.drew ?_ | refine below_drewN ?_ _ | refine Below.alloc' ?_ _ | refine Below.setCell ?_ (by first | omega | (dsimp only; omega) | (simp; done) | (simp; omega)) _ | refine Below.alloc ?_ (by first | assumption | exact Nat.le_refl _ | omega | (simp; done) | (simp; omega)) _))))) hB4; have := Below.size hB))
  go_wp2_with fail
  go_ret
  exact ⟨rfl, hB⟩

set_option maxRecDepth 100000 in
theorem samerat_calls (w : World) (v1 v2 : Value) (q : Rat) {B : Nat} (h : RawAt B w v1 (rawOf q)) (h' : RawAt B w v2 (rawOf q)) :
    Calls Tryz.prog 25 #[v1, v2] w fun e w' => e = .returned (.bool true) ∧ Below w.heap.size w w' := by
  obtain ⟨A, c, A', c', rfl, -, -, hp, hp'⟩ := h
  obtain ⟨D, d, D', d', rfl, -, -, hd, hd'⟩ := h'
  have H1 := Lib.hid hp.1
  have H2 := Lib.hid hp'.1
  have H3' := Lib.hid hd.1
  have H4 := Lib.hid hd'.1
  clear hp hp' hd hd'
  obtain ⟨w3, h3, hB, b0, b1⟩ := boxes2 w 36 36 #[.bool (rawOf q).neg, .slice A (rawOf q).xs.length c, .slice A' (rawOf q).ys.length c'] #[.bool (rawOf q).neg, .slice D (rawOf q).xs.length d, .slice D' (rawOf q).ys.length d']
  have H3 := Lib.hid h3
  have B0 := Lib.hid b0
  have B1 := Lib.hid b1
  clear h3 b0 b1
  go_enter Tryz.func25, Tryz.ntmps25
  go_wp2_with fail
  rw [← H3.out]
  refine (sameint_calls _ _ _ _ _ _ _ (H1.out.below hB) (H3'.out.below hB)).mono ?_
  rintro e w4 ⟨rfl, hB4⟩
  ((replace B0 := Lib.hid (Box.below (Box.below (Hid.out B0) (by ((repeat (first | assumption | exact Below.refl _ _ | refine Below.drew ?_ | refine below_drewN ?_ _ | refine Below.alloc' ?_ _ | refine Below.setCell ?_ (by first | omega | (dsimp only; omega) | (simp; done) | (simp; omega)) _ | refine Below.alloc ?_ (by first | assumption | exact Nat.le_refl _ | omega | (simp; done) | (simp; omega)) _))))) hB4); (try clear B0c1 B0c2 B0c3 B0c4 B0c5 B0c6); obtain ⟨B0c1, B0c2, B0c3, B0c4, B0c5, B0c6⟩ := Box.three (Hid.out B0); have := Box.lt (Hid.out B0)))
  ((replace B1 := Lib.hid (Box.below (Box.below (Hid.out B1) (by ((repeat (first | assumption | exact Below.refl _ _ | refine Below.drew ?_ | refine below_drewN ?_ _ | refine Below.alloc' ?_ _ | refine Below.setCell ?_ (by first | omega | (dsimp only; omega) | (simp; done) | (simp; omega)) _ | refine Below.alloc ?_ (by first | assumption | exact Nat.le_refl _ | omega | (simp; done) | (simp; omega)) _))))) hB4); (try clear B1c1 B1c2 B1c3 B1c4 B1c5 B1c6); obtain ⟨B1c1, B1c2, B1c3, B1c4, B1c5, B1c6⟩ := Box.three (Hid.out B1); have := Box.lt (Hid.out B1)))
  ((replace hB := Below.on (Below.on hB (by ((repeat (first | assumption | exact Below.refl _ _ | refine Below.drew ?_ | refine below_drewN ?_ _ | refine Below.alloc' ?_ _ | refine Below.setCell ?_ (by first | omega | (dsimp only; omega) | (simp; done) | (simp; omega)) _ | refine Below.alloc ?_ (by first | assumption | exact Nat.le_refl _ | omega | (simp; done) | (simp; omega)) _))))) hB4; have := Below.size hB))
  go_wp2_with fail
  refine (samenat_calls _ _ _ _ _ _ (H2.out.below hB) (H4.out.below hB)).mono ?_
  rintro e w5 ⟨rfl, hB5⟩
  ((replace hB := Below.on (Below.on hB (by ((repeat (first | assumption | exact Below.refl _ _ | refine Below.drew ?_ | refine below_drewN ?_ _ | refine Below.alloc' ?_ _ | refine Below.setCell ?_ (by first | omega | (dsimp only; omega) | (simp; done) | (simp; omega)) _ | refine Below.alloc ?_ (by first | assumption | exact Nat.le_refl _ | omega | (simp; done) | (simp; omega)) _))))) hB5; have := Below.size hB))
  go_wp2_with fail
  go_ret
  exact ⟨rfl, hB⟩

end Go.Proofs.YthofbikhomnjpaaGreatDoor
