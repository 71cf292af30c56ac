import Derived.Test.YthofbikhomnjpaaGreatDoorPure2
/-! Bits of 0 at the end of a number; the greatest common divisor by halves. -/
namespace Go.Proofs.YthofbikhomnjpaaGreatDoor
set_option linter.unusedVariables false
set_option linter.unusedSimpArgs false

/-- k is the number of bits of 0 at the end of n (not 0). -/
def isTz (n k : Nat) : Prop := ∃ m, n = 2 ^ k * (2 * m + 1)
theorem isTz.pos {n k : Nat} (h : isTz n k) : 0 < n := by
  obtain ⟨m, rfl⟩ := h
  exact Nat.mul_pos (Nat.pow_pos (by omega)) (by omega)
theorem isTz.div {n k : Nat} (h : isTz n k) : (n / 2 ^ k) % 2 = 1 ∧ n = 2 ^ k * (n / 2 ^ k) := by
  obtain ⟨m, rfl⟩ := h
  rw [Nat.mul_div_cancel_left _ (Nat.pow_pos (by omega))]
  exact ⟨by omega, rfl⟩

theorem isTz_parts {l : List Nat} {i t x : Nat} (hl : val (l.take i) = 0) (hi : i < l.length) (hx : el l i = x) (ht : t < 32) (hm : ∃ m, x = 2 ^ t * (2 * m + 1)) : isTz (val l) (32 * i + t) := by
  obtain ⟨m, hm⟩ := hm
  have h1 := val_append' (l.take i) (l.drop i)
  rw [List.take_append_drop, hl, List.length_take, Nat.min_eq_left (by omega), Nat.zero_add, val_drop_eq l i hi, hx, hm] at h1
  refine ⟨m + 2 ^ (31 - t) * val (l.drop (i + 1)), ?_⟩
  rw [h1, pw_two, Nat.pow_add, Nat.mul_assoc]
  congr 1
  have e : 4294967296 = 2 ^ t * (2 * 2 ^ (31 - t)) := by
    rw [show 2 * 2 ^ (31 - t) = 2 ^ (32 - t) from by rw [show 32 - t = (31 - t) + 1 by omega, Nat.pow_succ]; omega, ← Nat.pow_add, show t + (32 - t) = 32 by omega]
  rw [show 4294967296 * val (l.drop (i + 1)) = 2 ^ t * (2 * 2 ^ (31 - t) * val (l.drop (i + 1))) from by rw [← Nat.mul_assoc, ← e], ← Nat.mul_add, Nat.mul_add 2]
  congr 1
  rw [Nat.mul_assoc]; omega

end Go.Proofs.YthofbikhomnjpaaGreatDoor
