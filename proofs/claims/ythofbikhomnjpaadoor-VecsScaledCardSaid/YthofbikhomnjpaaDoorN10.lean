import Derived.Test.YthofbikhomnjpaaDoorN9
import Derived.Test.YthofbikhomnjpaaDoorPure3
import Derived.Shelf.Small.Bits
import Derived.Lib.TrailingZeros
import Derived.Lib.ItoaNum
namespace Go.Proofs.YthofbikhomnjpaaDoor
open Go.RowKit Go.Shelf
set_option linter.unusedVariables false
set_option linter.unusedSimpArgs false

def lays128_ren : Go.Shelf.Ren := ⟨fun | 128 => 116 | n => n, fun | 51 => 52 | 3 => 3 | 4 => 4 | 46 => 100 | 5 => 5 | 9 => 9 | n => n, fun | n => n⟩
theorem lays128 : Go.Proofs.Lays.n128 Tryd.prog lays128_ren := {
  mixed := by kernel_rfl
  f128 := Tryd.func116.trans (congrArg some (by kernel_rfl))
  t3 := Tryd.underlying3
  a3 := Tryd.isAgg3
  z3 := Tryd.sizeOf3
  v3 := Tryd.zeroValue3
  t4 := Tryd.underlying4
  a4 := Tryd.isAgg4
  z4 := Tryd.sizeOf4
  v4 := Tryd.zeroValue4
  t5 := Tryd.underlying5
  a5 := Tryd.isAgg5
  z5 := Tryd.sizeOf5
  v5 := Tryd.zeroValue5
  t9 := Tryd.underlying9
  a9 := Tryd.isAgg9
  z9 := Tryd.sizeOf9
  v9 := Tryd.zeroValue9
  t46 := Tryd.underlying100
  a46 := Tryd.isAgg100
  z46 := Tryd.sizeOf100
  v46 := Tryd.zeroValue100
  t51 := Tryd.underlying52
  a51 := Tryd.isAgg52
  z51 := Tryd.sizeOf52
  v51 := Tryd.zeroValue52 }
theorem len32_calls (x : Int) (w : World) (h0 : 0 ≤ x) (h1 : x ≤ 4294967295) :
    Calls Tryd.prog 116 #[.int .u32 x] w fun e w' => e = .returned (.int .i64 (Lib.bitLen x.toNat)) ∧ w' = w := Any.bits_Len32 lays128 x w h0 h1

theorem bitLen_le32 (x : Nat) (h : x < 4294967296) : Lib.bitLen x ≤ 32 := by
  by_cases h0 : x = 0
  · subst h0; decide
  · have h1 := Lib.bitLenAux_bounds 64 x (by omega) h0
    have h2 : 2 ^ (Lib.bitLenAux 64 x - 1) < 2 ^ 32 := by omega
    have h3 := (Nat.pow_lt_pow_iff_right (a := 2) (by omega)).1 h2
    unfold Lib.bitLen; omega
theorem bitLen_top (x : Nat) (h : x < 4294967296) (h0 : x ≠ 0) : 2147483648 ≤ x * 2 ^ (32 - Lib.bitLen x) ∧ x * 2 ^ (32 - Lib.bitLen x) < 4294967296 := by
  have h1 := Lib.bitLenAux_bounds 64 x (by omega) h0
  have h2 := bitLen_le32 x h
  have h3 : 1 ≤ Lib.bitLen x := h1.1
  have h4 : 2 ^ (Lib.bitLen x - 1) ≤ x := h1.2.1
  have h5 : x < 2 ^ Lib.bitLen x := h1.2.2
  have e1 : 2 ^ (Lib.bitLen x - 1) * 2 ^ (32 - Lib.bitLen x) = 2147483648 := by rw [← Nat.pow_add, show Lib.bitLen x - 1 + (32 - Lib.bitLen x) = 31 by omega]
  have e2 : 2 ^ Lib.bitLen x * 2 ^ (32 - Lib.bitLen x) = 4294967296 := by rw [← Nat.pow_add, show Lib.bitLen x + (32 - Lib.bitLen x) = 32 by omega]
  have h6 := Nat.mul_le_mul_right (2 ^ (32 - Lib.bitLen x)) h4
  have h7 := Nat.mul_lt_mul_of_pos_right h5 (Nat.pow_pos (n := 32 - Lib.bitLen x) (show 0 < 2 by omega))
  omega

/-- How far a part must be shifted for its highest bit to be set. -/
def lz (x : Nat) : Nat := 32 - Lib.bitLen x
theorem lz_le (x : Nat) : lz x ≤ 32 := by unfold lz; omega
theorem lz_lt (x : Nat) (h : x < 4294967296) (h0 : x ≠ 0) : lz x < 32 := by
  have h1 := Lib.bitLenAux_bounds 64 x (by omega) h0
  have h3 : 1 ≤ Lib.bitLen x := h1.1
  unfold lz; omega

theorem lz32_calls (x : Nat) (w : World) (h1 : x < 4294967296) :
    Calls Tryd.prog 106 #[.int .u32 (x : Int)] w fun e w' => e = .returned (.int .i64 ((lz x : Nat) : Int)) ∧ w' = w := by
  have hbl := bitLen_le32 x h1
  go_enter Tryd.func106, Tryd.ntmps106
  go_wp2_with (go_at_call 116; refine (len32_calls _ _ (by omega) (by omega)).mono ?_; rintro e w' ⟨rfl, rfl⟩)
  go_ret
  refine ⟨ret_eq (int_eq ?_), rfl⟩
  unfold lz
  omega

/-- The table of math/bits that TrailingZeros32 reads, in its variable. -/
def Tab (w : World) : Prop := ∀ j, j < 32 → w.cell? ⟨0, j, none⟩ = some (.int .u8 ((Lib.deBruijn32tab.getD j 0 : Nat) : Int))
theorem Tab.below {w w' : World} (h : Tab w) (hb : Below w.heap.size w w') : Tab w' := fun j hj =>
  (hb.cell (p := ⟨0, j, none⟩) (World.block_lt_of_cell? w _ (h j hj))).trans (h j hj)

theorem tz_key (x a : Nat) (hx : x < 4294967296) (h0 : x ≠ 0) (hlow : x &&& (4294967296 - x) = a) :
    bits BinOp.and IntKind.u32 (x : Int) (-(x : Int) % 4294967296) * 125613361 % 4294967296 / 134217728 = ((a * 125613361 % 4294967296 / 134217728 : Nat) : Int) := by
  have e1 : -(x : Int) % 4294967296 = ((4294967296 - x : Nat) : Int) := by omega
  rw [e1, u32_and_nat x _ hx (by omega), hlow]
  omega

theorem tz_core (x k idx : Nat) (w : World) (hx0 : ((x : Int) == 0) = false)
    (key : bits BinOp.and IntKind.u32 (x : Int) (-(x : Int) % 4294967296) * 125613361 % 4294967296 / 134217728 = (idx : Int))
    (hi : idx < 32) (hk : k < 32) (hcell : w.cell? ⟨0, idx, none⟩ = some (.int .u8 k)) :
    Calls Tryd.prog 91 #[.int .u32 (x : Int)] w fun e w' => e = .returned (.int .i64 k) ∧ w' = w := by
  go_enter Tryd.func91, Tryd.ntmps91
  go_wp2_with (simp only [key])
  go_ret
  exact ⟨rfl, rfl⟩

theorem tz32_calls (x : Nat) (w : World) (h1 : x < 4294967296) (h0 : x ≠ 0) (hT : Tab w) :
    Calls Tryd.prog 91 #[.int .u32 (x : Int)] w fun e w' => e = .returned (.int .i64 ((Lib.ctz 32 x : Nat) : Int)) ∧ w' = w := by
  obtain ⟨hlow, hk⟩ := Lib.lowest_bit 32 x h0 h1
  obtain ⟨hi, htab⟩ := Lib.deBruijn32_at _ hk
  have hcell := hT _ hi
  rw [htab] at hcell
  exact tz_core x _ _ w (by simp; omega) (tz_key x _ h1 h0 hlow) hi hk hcell

/-- What noughts tells: of a number that is not 0 the bits of 0 at its end. -/
def noughtsOf (xs : List Nat) (k : Nat) : Prop := k ≤ 32 * xs.length ∧ (val xs ≠ 0 → isTz (val xs) k)

theorem noughts_calls (w : World) (A : Option Addr) (c : Nat) (xs : List Nat) (hx : Parts w A xs) (hT : Tab w) :
    Calls Tryd.prog 71 #[.slice A xs.length c] w fun e w' => (∃ k : Nat, e = .returned (.int .u64 k) ∧ noughtsOf xs k) ∧ w' = w := by
  obtain ⟨hs, hl, hc⟩ := hx
  have HS := Lib.hid hs
  have HC := Lib.hid hc
  have HT := Lib.hid hT
  clear hs hc hT
  go_enter Tryd.func71, Tryd.ntmps71
  go_wp2_with fail
  go_loop [2, 7] (fun r i => ∃ m : Nat, m ≤ xs.length ∧ i = .int .i64 m ∧ r = .int .u64 ((32 * m : Nat) : Int) ∧ Hid (val (xs.take m) = 0)) (fun _ i => xs.length - (intOf i).toNat)
  case atStart => exact ⟨0, by omega, rfl, rfl, rfl⟩
  case round =>
    obtain ⟨m, hm, rfl, rfl, HV⟩ := hrel
    by_cases hlt : m < xs.length
    · obtain ⟨b, o, rfl, hcx⟩ := HC.out (by omega)
      have hcx1 := hcx m hlt
      have hu := el_lt HS.out m
      clear hcx
      by_cases h0 : el xs m = 0
      · have hb : (((el xs m : Nat) : Int) != 0) = false := by rw [bne_eq_false_iff_eq]; omega
        have H0 := Lib.hid h0
        clear h0
        go_wp2_with fail
        go_round
        case rel => exact ⟨m + 1, by omega, by go_num, int_eq (by omega), by show _ = _; rw [val_take_succ, HV.out, H0.out]; simp⟩
        case measure => simp [intOf]; omega
      · have hb : (((el xs m : Nat) : Int) != 0) = true := by rw [bne_iff_ne]; omega
        have hk := (Lib.lowest_bit 32 _ h0 hu).2
        have H0 := Lib.hid h0
        clear h0
        go_wp2_with (go_at_call 91; refine (tz32_calls _ _ hu H0.out HT.out).mono ?_; rintro e w' ⟨rfl, rfl⟩)
        go_ret
        refine ⟨⟨32 * m + Lib.ctz 32 (el xs m), ret_eq (int_eq (by omega)), by omega, fun _ => isTz_parts HV.out hlt rfl hk ?_⟩, rfl⟩
        obtain ⟨q, hq, _⟩ := Lib.ctzFrom_spec 32 (el xs m) (by have := H0.out; omega) hu
        exact ⟨q, by rw [Lib.ctz, if_neg H0.out]; exact hq⟩
    · have hmx : m = xs.length := by omega
      subst hmx
      go_wp2_with fail
      go_ret
      exact ⟨⟨32 * xs.length, rfl, Nat.le_refl _, fun h => absurd (by have := HV.out; rwa [val_take_all _ (Nat.le_refl _)] at this) h⟩, rfl⟩

end Go.Proofs.YthofbikhomnjpaaDoor
