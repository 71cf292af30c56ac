import Derived.Test.YthofbikhomnjpaaGreatDoorN9
import Derived.Test.YthofbikhomnjpaaGreatDoorPure3
import Derived.Shelf.Small.Bits
import Derived.Lib.TrailingZeros
import Derived.Lib.ItoaNum
namespace Go.Proofs.YthofbikhomnjpaaGreatDoor
open Go.RowKit Go.Shelf
set_option linter.unusedVariables false
set_option linter.unusedSimpArgs false

def lays128_ren : Go.Shelf.Ren := ⟨fun | 128 => 136 | n => n, fun | 51 => 62 | 3 => 3 | 4 => 4 | 46 => 114 | 5 => 5 | 9 => 9 | n => n, fun | n => n⟩
theorem lays128 : Go.Proofs.Lays.n128 Tryz.prog lays128_ren := {
  mixed := by kernel_rfl
  f128 := Tryz.func136.trans (congrArg some (by kernel_rfl))
  t3 := Tryz.underlying3
  a3 := Tryz.isAgg3
  z3 := Tryz.sizeOf3
  v3 := Tryz.zeroValue3
  t4 := Tryz.underlying4
  a4 := Tryz.isAgg4
  z4 := Tryz.sizeOf4
  v4 := Tryz.zeroValue4
  t5 := Tryz.underlying5
  a5 := Tryz.isAgg5
  z5 := Tryz.sizeOf5
  v5 := Tryz.zeroValue5
  t9 := Tryz.underlying9
  a9 := Tryz.isAgg9
  z9 := Tryz.sizeOf9
  v9 := Tryz.zeroValue9
  t46 := Tryz.underlying114
  a46 := Tryz.isAgg114
  z46 := Tryz.sizeOf114
  v46 := Tryz.zeroValue114
  t51 := Tryz.underlying62
  a51 := Tryz.isAgg62
  z51 := Tryz.sizeOf62
  v51 := Tryz.zeroValue62 }
theorem len32_calls (x : Int) (w : World) (h0 : 0 ≤ x) (h1 : x ≤ 4294967295) :
    Calls Tryz.prog 136 #[.int .u32 x] w fun e w' => e = .returned (.int .i64 (Lib.bitLen x.toNat)) ∧ w' = w := Any.bits_Len32 lays128 x w h0 h1

theorem bitLen_le32 (x : Nat) (h : x < 4294967296) : Lib.bitLen x ≤ 32 := by
  by_cases h0 : x = 0
  · subst h0; decide
  · have h1 := Lib.bitLenAux_bounds 64 x (by omega) h0
    have h2 : 2 ^ (Lib.bitLenAux 64 x - 1) < 2 ^ 32 := by omega
    have h3 := (Nat.pow_lt_pow_iff_right (a := 2) (by omega)).1 h2
    unfold Lib.bitLen; omega
theorem bitLen_top (x : Nat) (h : x < 4294967296) (h0 : x ≠ 0) : 2147483648 ≤ x * 2 ^ (32 - Lib.bitLen x) ∧ x * 2 ^ (32 - Lib.bitLen x) < 4294967296 := by
  have h1 := Lib.bitLenAux_bounds 64 x (by omega) h0
  have h2 := bitLen_le32 x h
  have h3 : 1 ≤ Lib.bitLen x := h1.1
  have h4 : 2 ^ (Lib.bitLen x - 1) ≤ x := h1.2.1
  have h5 : x < 2 ^ Lib.bitLen x := h1.2.2
  have e1 : 2 ^ (Lib.bitLen x - 1) * 2 ^ (32 - Lib.bitLen x) = 2147483648 := by rw [← Nat.pow_add, show Lib.bitLen x - 1 + (32 - Lib.bitLen x) = 31 by omega]
  have e2 : 2 ^ Lib.bitLen x * 2 ^ (32 - Lib.bitLen x) = 4294967296 := by rw [← Nat.pow_add, show Lib.bitLen x + (32 - Lib.bitLen x) = 32 by omega]
  have h6 := Nat.mul_le_mul_right (2 ^ (32 - Lib.bitLen x)) h4
  have h7 := Nat.mul_lt_mul_of_pos_right h5 (Nat.pow_pos (n := 32 - Lib.bitLen x) (show 0 < 2 by omega))
  omega

/-- How far a part must be shifted for its highest bit to be set. -/
def lz (x : Nat) : Nat := 32 - Lib.bitLen x
theorem lz_le (x : Nat) : lz x ≤ 32 := by unfold lz; omega
theorem lz_lt (x : Nat) (h : x < 4294967296) (h0 : x ≠ 0) : lz x < 32 := by
  have h1 := Lib.bitLenAux_bounds 64 x (by omega) h0
  have h3 : 1 ≤ Lib.bitLen x := h1.1
  unfold lz; omega

theorem lz32_calls (x : Nat) (w : World) (h1 : x < 4294967296) :
    Calls Tryz.prog 128 #[.int .u32 (x : Int)] w fun e w' => e = .returned (.int .i64 ((lz x : Nat) : Int)) ∧ w' = w := by
  have hbl := bitLen_le32 x h1
  go_enter Tryz.func128, Tryz.ntmps128
  go_wp2_with (go_at_call 136; refine (len32_calls _ _ (by omega) (by omega)).mono ?_; rintro e w' ⟨rfl, rfl⟩)
  go_ret
  refine ⟨ret_eq (int_eq ?_), rfl⟩
  unfold lz
  omega

/-- The table of math/bits that TrailingZeros32 reads, in its variable. -/
def Tab (w : World) : Prop := ∀ j, j < 32 → w.cell? ⟨0, j, none⟩ = some (.int .u8 ((Lib.deBruijn32tab.getD j 0 : Nat) : Int))
theorem Tab.below {w w' : World} (h : Tab w) (hb : Below w.heap.size w w') : Tab w' := fun j hj =>
  (hb.cell (p := ⟨0, j, none⟩) (World.block_lt_of_cell? w _ (h j hj))).trans (h j hj)

theorem tz_key (x a : Nat) (hx : x < 4294967296) (h0 : x ≠ 0) (hlow : x &&& (4294967296 - x) = a) :
    bits BinOp.and IntKind.u32 (x : Int) (-(x : Int) % 4294967296) * 125613361 % 4294967296 / 134217728 = ((a * 125613361 % 4294967296 / 134217728 : Nat) : Int) := by
  have e1 : -(x : Int) % 4294967296 = ((4294967296 - x : Nat) : Int) := by omega
  rw [e1, u32_and_nat x _ hx (by omega), hlow]
  omega

theorem tz_core (x k idx : Nat) (w : World) (hx0 : ((x : Int) == 0) = false)
    (key : bits BinOp.and IntKind.u32 (x : Int) (-(x : Int) % 4294967296) * 125613361 % 4294967296 / 134217728 = (idx : Int))
    (hi : idx < 32) (hk : k < 32) (hcell : w.cell? ⟨0, idx, none⟩ = some (.int .u8 k)) :
    Calls Tryz.prog 112 #[.int .u32 (x : Int)] w fun e w' => e = .returned (.int .i64 k) ∧ w' = w := by
  go_enter Tryz.func112, Tryz.ntmps112
  go_wp2_with (simp only [key])
  go_ret
  exact ⟨rfl, rfl⟩

theorem tz32_calls (x : Nat) (w : World) (h1 : x < 4294967296) (h0 : x ≠ 0) (hT : Tab w) :
    Calls Tryz.prog 112 #[.int .u32 (x : Int)] w fun e w' => e = .returned (.int .i64 ((Lib.ctz 32 x : Nat) : Int)) ∧ w' = w := by
  obtain ⟨hlow, hk⟩ := Lib.lowest_bit 32 x h0 h1
  obtain ⟨hi, htab⟩ := Lib.deBruijn32_at _ hk
  have hcell := hT _ hi
  rw [htab] at hcell
  exact tz_core x _ _ w (by simp; omega) (tz_key x _ h1 h0 hlow) hi hk hcell

/-- What noughts tells: of a number that is not 0 the bits of 0 at its end. -/
def noughtsOf (xs : List Nat) (k : Nat) : Prop := k ≤ 32 * xs.length ∧ (val xs ≠ 0 → isTz (val xs) k)

theorem noughts_calls (w : World) (A : Option Addr) (c : Nat) (xs : List Nat) (hx : Parts w A xs) (hT : Tab w) :
    Calls Tryz.prog 90 #[.slice A xs.length c] w fun e w' => (∃ k : Nat, e = .returned (.int .u64 k) ∧ noughtsOf xs k) ∧ w' = w := by
  obtain ⟨hs, hl, hc⟩ := hx
  have HS := Lib.hid hs
  have HC := Lib.hid hc
  have HT := Lib.hid hT
  clear hs hc hT
  go_enter Tryz.func90, Tryz.ntmps90
  go_wp2_with fail
  go_loop [2, 7] (fun r i => ∃ m : Nat, m ≤ xs.length ∧ i = .int .i64 m ∧ r = .int .u64 ((32 * m : Nat) : Int) ∧ Hid (val (xs.take m) = 0)) (fun _ i => xs.length - (intOf i).toNat)
  case atStart => exact ⟨0, by omega, rfl, rfl, rfl⟩
  case round =>
    obtain ⟨m, hm, rfl, rfl, HV⟩ := hrel
    by_cases hlt : m < xs.length
    · obtain ⟨b, o, rfl, hcx⟩ := HC.out (by omega)
      have hcx1 := hcx m hlt
      have hu := el_lt HS.out m
      clear hcx
      by_cases h0 : el xs m = 0
      · have hb : (((el xs m : Nat) : Int) != 0) = false := by rw [bne_eq_false_iff_eq]; omega
        have H0 := Lib.hid h0
        clear h0
        go_wp2_with fail
        go_round
        case rel => exact ⟨m + 1, by omega, by go_num, int_eq (by omega), by show _ = _; rw [val_take_succ, HV.out, H0.out]; simp⟩
        case measure => simp [intOf]; omega
      · have hb : (((el xs m : Nat) : Int) != 0) = true := by rw [bne_iff_ne]; omega
        have hk := (Lib.lowest_bit 32 _ h0 hu).2
        have H0 := Lib.hid h0
        clear h0
        go_wp2_with (go_at_call 112; refine (tz32_calls _ _ hu H0.out HT.out).mono ?_; rintro e w' ⟨rfl, rfl⟩)
        go_ret
        refine ⟨⟨32 * m + Lib.ctz 32 (el xs m), ret_eq (int_eq (by omega)), by omega, fun _ => isTz_parts HV.out hlt rfl hk ?_⟩, rfl⟩
        obtain ⟨q, hq, _⟩ := Lib.ctzFrom_spec 32 (el xs m) (by have := H0.out; omega) hu
        exact ⟨q, by rw [Lib.ctz, if_neg H0.out]; exact hq⟩
    · have hmx : m = xs.length := by omega
      subst hmx
      go_wp2_with fail
      go_ret
      exact ⟨⟨32 * xs.length, rfl, Nat.le_refl _, fun h => absurd (by have := HV.out; rwa [val_take_all _ (Nat.le_refl _)] at this) h⟩, rfl⟩

end Go.Proofs.YthofbikhomnjpaaGreatDoor
