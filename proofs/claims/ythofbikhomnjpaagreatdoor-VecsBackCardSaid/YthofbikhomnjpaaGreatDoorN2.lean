import Derived.Test.YthofbikhomnjpaaGreatDoorN1
namespace Go.Proofs.YthofbikhomnjpaaGreatDoor
open Go.RowKit
set_option linter.unusedVariables false
set_option linter.unusedSimpArgs false

theorem fine_calls (w : World) (A : Option Addr) (c : Nat) (xs : List Nat) (h : Parts w A xs) (hle : xs.length ≤ c) :
    Calls Tryz.prog 89 #[.slice A xs.length c] w fun e w' => ∃ A' c', e = .returned (.slice A' (fineL xs).length c') ∧ (fineL xs).length ≤ c' ∧ c' ≤ c ∧ Parts w' A' (fineL xs) ∧ w' = w := by
  by_cases hk : okL xs = true
  · go_enter Tryz.func89, Tryz.ntmps89
    go_wp2_with (first | (go_at_call 52; refine (check_calls _ _ _ _ h).mono ?_; rintro e w' ⟨rfl, rfl⟩))
    go_ret
    exact ⟨A, c, by simp [fineL, hk], by simp [fineL, hk, hle], Nat.le_refl _, by simp only [fineL, hk, if_true]; exact h, rfl⟩
  · have hk : okL xs = false := by simpa using hk
    go_enter Tryz.func89, Tryz.ntmps89
    go_wp2_with (first | (go_at_call 52; refine (check_calls _ _ _ _ h).mono ?_; rintro e w' ⟨rfl, rfl⟩))
    go_ret
    exact ⟨none, 0, by simp [fineL, hk], by simp [fineL, hk], Nat.zero_le _, by simp only [fineL, hk]; exact Parts.nil _ _, rfl⟩

def atV (xs : List Nat) (i : Int) : Nat := if 0 ≤ i then el xs i.toNat else 0
theorem atV_lt {xs : List Nat} (h : Small xs) (i : Int) : atV xs i < 4294967296 := by unfold atV; split; exact el_lt h _; omega
theorem atV_nat (xs : List Nat) (i : Nat) : atV xs (i : Int) = el xs i := by unfold atV; rw [if_pos (by omega), Int.toNat_natCast]

theorem at_calls (w : World) (A : Option Addr) (c : Nat) (xs : List Nat) (i : Int) (h : Parts w A xs) :
    Calls Tryz.prog 113 #[.slice A xs.length c, .int .i64 i] w fun e w' => e = .returned (.int .u64 ((atV xs i : Nat) : Int)) ∧ w' = w := by
  obtain ⟨hs, hl, h⟩ := h
  by_cases h0 : i < 0
  · clear hs h
    go_enter Tryz.func113, Tryz.ntmps113
    go_wp2
    go_ret
    exact ⟨by unfold atV; rw [if_neg (by omega)]; rfl, rfl⟩
  · by_cases h1 : (xs.length : Int) ≤ i
    · clear hs h
      go_enter Tryz.func113, Tryz.ntmps113
      go_wp2
      go_ret
      exact ⟨by unfold atV; rw [el_ge (by omega)]; simp, rfl⟩
    · obtain ⟨b, o, rfl, hc⟩ := h (by omega)
      have hg := hc i.toNat (by omega)
      have hb := el_lt hs i.toNat
      clear hs h hc
      go_enter Tryz.func113, Tryz.ntmps113
      go_wp2
      go_ret
      exact ⟨by unfold atV; rw [if_pos (by omega)]; rfl, rfl⟩

theorem add32_calls (w : World) (x y c : Nat) (hx : x < 4294967296) (hy : y < 4294967296) (hc : c ≤ 1) :
    Calls Tryz.prog 130 #[.int .u32 (x : Int), .int .u32 (y : Int), .int .u32 (c : Int)] w fun e w' => e = .returned (.tuple #[.int .u32 (((x + y + c) % 4294967296 : Nat) : Int), .int .u32 (((x + y + c) / 4294967296 : Nat) : Int)]) ∧ w' = w := by
  go_enter Tryz.func130, Tryz.ntmps130
  go_wp2
  go_ret2
  refine ⟨ret_eq ?_, rfl⟩
  rw [show (((x + y + c) % 4294967296 : Nat) : Int) = ((x : Int) + y + c) % 4294967296 from by omega, show (((x + y + c) / 4294967296 : Nat) : Int) = ((x : Int) + y + c) / 4294967296 from by omega]
  rfl

theorem top_bit (a : Nat) (h : a < 4294967296) : a / 2147483648 = if a.testBit 31 then 1 else 0 := by
  rw [Nat.testBit_eq_decide_div_mod_eq]
  have : a / 2147483648 < 2 := by omega
  by_cases h : a / 2147483648 = 1
  · simp [h]
  · simp [show a / 2147483648 = 0 by omega]
theorem not_bit (x : Nat) (h : x < 4294967296) : (4294967295 ^^^ x).testBit 31 = !x.testBit 31 := by
  rw [Nat.testBit_xor]
  have : Nat.testBit 4294967295 31 = true := by decide
  rw [this]; simp
theorem bit31 (a : Nat) (h : a < 4294967296) : a.testBit 31 = decide (2147483648 ≤ a) := by
  rw [Nat.testBit_eq_decide_div_mod_eq]
  by_cases h2 : 2147483648 ≤ a
  · simp [h2]; omega
  · simp [h2]; omega
theorem borrow (x y c : Nat) (hx : x < 4294967296) (hy : y < 4294967296) (hc : c ≤ 1) :
    (((4294967295 ^^^ x) &&& y) ||| ((4294967295 ^^^ (x ^^^ y)) &&& diff x y c)) / 2147483648 = owes x y c := by
  have hd := diff_lt x y c
  have hxy : x ^^^ y < 4294967296 := Nat.xor_lt_two_pow (n := 32) hx hy
  rw [top_bit _ (Nat.or_lt_two_pow (n := 32) (Nat.and_lt_two_pow _ hy) (Nat.and_lt_two_pow _ hd))]
  rw [Nat.testBit_or, Nat.testBit_and, Nat.testBit_and, not_bit x hx, not_bit _ hxy, Nat.testBit_xor, bit31 x hx, bit31 y hy, bit31 _ hd]
  unfold owes diff at *
  by_cases h1 : 2147483648 ≤ x <;> by_cases h2 : 2147483648 ≤ y <;> by_cases h4 : x < y + c <;> by_cases h3 : 2147483648 ≤ (x + 4294967296 - y - c) % 4294967296 <;> simp [h1, h2, h3, h4] <;> omega

theorem sub_val (x y c : Nat) (hx : x < 4294967296) (hy : y < 4294967296) (hc : c ≤ 1) :
    bits .or .u32 (bits .and .u32 (bits .xor .u32 IntKind.u32.max x) y) (bits .and .u32 (bits .xor .u32 IntKind.u32.max (bits .xor .u32 x y)) (((x : Int) - y - c) % 4294967296)) / 2147483648 = ((owes x y c : Nat) : Int) := by
  have hm : IntKind.u32.max = ((4294967295 : Nat) : Int) := by decide
  have hd : ((x : Int) - y - c) % 4294967296 = ((diff x y c : Nat) : Int) := by unfold diff; omega
  have hdl := diff_lt x y c
  have hxy : x ^^^ y < 4294967296 := Nat.xor_lt_two_pow (n := 32) hx hy
  have h1 : 4294967295 ^^^ x < 4294967296 := Nat.xor_lt_two_pow (n := 32) (by omega) hx
  have h2 : 4294967295 ^^^ (x ^^^ y) < 4294967296 := Nat.xor_lt_two_pow (n := 32) (by omega) hxy
  rw [hm, hd, u32_xor_nat _ _ hx hy, u32_xor_nat _ _ (by omega) hx, u32_xor_nat _ _ (by omega) hxy, u32_and_nat _ _ h1 hy, u32_and_nat _ _ h2 hdl,
    u32_or_nat _ _ (Nat.and_lt_two_pow (n := 32) _ hy) (Nat.and_lt_two_pow (n := 32) _ hdl), ← borrow x y c hx hy hc]
  rfl

theorem sub32_calls (w : World) (x y c : Nat) (hx : x < 4294967296) (hy : y < 4294967296) (hc : c ≤ 1) :
    Calls Tryz.prog 114 #[.int .u32 (x : Int), .int .u32 (y : Int), .int .u32 (c : Int)] w fun e w' => e = .returned (.tuple #[.int .u32 ((diff x y c : Nat) : Int), .int .u32 ((owes x y c : Nat) : Int)]) ∧ w' = w := by
  have hsg : IntKind.u32.signed = false := rfl
  go_enter Tryz.func114, Tryz.ntmps114
  go_wp2
  go_ret2
  exact ⟨ret_eq (tup2 (int_eq (by unfold diff; omega)) (int_eq (sub_val x y c hx hy hc))), rfl⟩

theorem of_calls (w : World) (n : Nat) (hn : n < 18446744073709551616) :
    Calls Tryz.prog 76 #[.int .u64 (n : Int)] w fun e w' => ∃ v bs, e = .returned v ∧ Own w' v n bs ∧ Fresh w.heap.size w' bs ∧ Below w.heap.size w w' := by
  have hb : Blk (w.alloc (.cells #[.int .u32 ((n : Int) % 4294967296), .int .u32 ((n : Int) / 4294967296)] 62)) w.heap.size [n % 4294967296, n / 4294967296] := Blk.new w [n % 4294967296, n / 4294967296]
  have hs : Small [n % 4294967296, n / 4294967296] := Small.cons (by omega) (Small.cons (by omega) Small.nil)
  have hv : val [n % 4294967296, n / 4294967296] = n := by simp only [val]; omega
  have HB := Lib.hid hb
  have HS := Lib.hid hs
  have HV := Lib.hid hv
  clear hb hs hv
  go_enter Tryz.func76, Tryz.ntmps76
  go_wp2_with (go_at_call 100; refine (cut_calls _ _ _ [n % 4294967296, n / 4294967296] (HB.out.parts HS.out (by simp)) (Nat.le_refl _)).mono ?_; rintro e w' ⟨rfl, rfl⟩)
  go_ret
  refine ⟨_, [w.heap.size], rfl, ?_, ⟨by simp, fun b hb => ?_⟩, (Below.refl _ _).alloc (Nat.le_refl _) _⟩
  · have := Own.of_blk HB.out HS.out (by simp)
    rw [HV.out] at this; exact this
  · rw [List.mem_singleton] at hb; subst hb; simp

end Go.Proofs.YthofbikhomnjpaaGreatDoor
