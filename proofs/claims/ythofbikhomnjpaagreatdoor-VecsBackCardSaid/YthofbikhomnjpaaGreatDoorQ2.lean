import Derived.Test.YthofbikhomnjpaaGreatDoorL4
namespace Go.Proofs.YthofbikhomnjpaaGreatDoor
set_option linter.unusedVariables false
set_option linter.unusedSimpArgs false

theorem scale_scale (ps : List Rat) (x y : Rat) : (ps.map (· * x)).map (· * y) = ps.map (· * (x * y)) := by
  rw [List.map_map]
  refine List.map_congr_left fun q _ => ?_
  exact Rat.mul_assoc q x y
theorem scale_one (ps : List Rat) : ps.map (· * ((1 : Int) : Rat)) = ps := by
  have : ∀ q : Rat, q * ((1 : Int) : Rat) = q := fun q => Rat.mul_one q
  simp [this]
theorem scale_zero (ps : List Rat) : ps.map (· * ((0 : Int) : Rat)) = List.replicate ps.length 0 := by
  have : ∀ q : Rat, q * ((0 : Int) : Rat) = 0 := fun q => Rat.mul_zero q
  refine List.ext_getElem (by simp) fun i h1 h2 => ?_
  simp [this]
theorem fits_scale {K L : Nat} {ps : List Rat} {q : Rat} (h : FitsAll K ps) (hq : Fits L q) : FitsAll (K + L) (ps.map (· * q)) := by
  intro z hz
  obtain ⟨p, hp, rfl⟩ := List.mem_map.1 hz
  exact (h p hp).mul hq
theorem fits_zeros (n : Nat) : FitsAll 1 (List.replicate n 0) := by
  intro q hq
  rw [List.eq_of_mem_replicate hq]
  exact fits_int (n := 0) (by decide)


end Go.Proofs.YthofbikhomnjpaaGreatDoor
