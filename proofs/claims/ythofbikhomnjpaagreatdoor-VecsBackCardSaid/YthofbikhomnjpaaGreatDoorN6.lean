import Derived.Test.YthofbikhomnjpaaGreatDoorN3
namespace Go.Proofs.YthofbikhomnjpaaGreatDoor
open Go.RowKit
set_option linter.unusedVariables false
set_option linter.unusedSimpArgs false

theorem or_join (x y : Nat) (hx : x < 4294967296) (hy : y < 4294967296) : bits .or .u64 ((x : Int) * 4294967296) (y : Int) = (x : Int) * 4294967296 + (y : Int) := by
  have h := or_add x y 32 hy
  have e : (x : Int) * 4294967296 = ((x * 2 ^ 32 : Nat) : Int) := by omega
  rw [e, u64_or_nat _ _ (by omega) (by omega), h]
  omega

theorem div32_calls (w : World) (x y d : Nat) (hx : x < d) (hy : y < 4294967296) (hd : d < 4294967296) :
    Calls Tryz.prog 120 #[.int .u32 (x : Int), .int .u32 (y : Int), .int .u32 (d : Int)] w fun e w' => e = .returned (.tuple #[.int .u32 (((x * 4294967296 + y) / d : Nat) : Int), .int .u32 (((x * 4294967296 + y) % d : Nat) : Int)]) ∧ ∃ n, w' = w.drewN n := by
  have hd0 : ((d : Int) == 0) = false := beq_eq_false_iff_ne.2 (by omega)
  have hd1 : ((d : Int) != 0) = true := by rw [bne_iff_ne]; omega
  have hle : decide ((d : Int) ≤ (x : Int)) = false := decide_eq_false (by omega)
  have hor := or_join x y (by omega) hy
  go_enter Tryz.func120, Tryz.ntmps120
  go_wp2_with fail
  go_quiet (fail)
  go_wp2_with fail
  go_ret2
  have hq : (x * 4294967296 + y) / d < 4294967296 := by
    rw [Nat.div_lt_iff_lt_mul (by omega)]
    have := Nat.mul_le_mul_right 4294967296 (show x + 1 ≤ d from hx)
    omega
  have hr : (x * 4294967296 + y) % d < d := Nat.mod_lt _ (by omega)
  have e : (x : Int) * 4294967296 + (y : Int) = ((x * 4294967296 + y : Nat) : Int) := by omega
  refine ⟨ret_eq (tup2 (int_eq ?_) (int_eq ?_)), nq, rfl⟩
  · rw [e, ← Int.natCast_ediv]
    generalize (x * 4294967296 + y) / d = q at *
    omega
  · rw [e, ← Int.natCast_emod]
    generalize (x * 4294967296 + y) % d = q at *
    omega

set_option maxRecDepth 100000 in
theorem shift_calls (w : World) (A : Option Addr) (c : Nat) (xs : List Nat) (k : Nat) (hx : Parts w A xs) (hc : xs.length ≤ c) (hk : xs.length + k / 32 ≤ 17592186044416) (hk63 : k ≤ 9223372036854775807) :
    Calls Tryz.prog 92 #[.slice A xs.length c, .int .u64 (k : Int)] w fun e w' => ∃ v bs, e = .returned v ∧ Own w' v (val xs * 2 ^ k) bs ∧ Fresh w.heap.size w' bs ∧ Below w.heap.size w w' := by
  have hmk := make_nat _ (xs.length + k / 32 + 1) (show (xs.length : Int) + (k : Int) / 32 + 1 = ((xs.length + k / 32 + 1 : Nat) : Int) from by omega) (by omega)
  have HS1 := Lib.hid hx.1
  have HX := Lib.hid hx
  clear hx
  go_enter Tryz.func92, Tryz.ntmps92
  go_wp2_with fail
  clear hmk
  have hb0 := Blk.new w (List.replicate (xs.length + k / 32 + 1) 0)
  go_loopw [21] (fun i wr => ∃ (m : Nat) (out : List Nat), m ≤ xs.length ∧ i = .int .i64 m ∧ Blk wr w.heap.size out ∧ out.length = xs.length + k / 32 + 1 ∧ Hid (Small out) ∧ Hid (val out = val (xs.take m) * 2 ^ k) ∧ el out (m + k / 32) < 2 ^ (k % 32) ∧ Hid (∀ j, m + k / 32 < j → el out j = 0) ∧ Below w.heap.size w wr) (fun i _ => xs.length - (intOf i).toNat)
  case atStart => exact ⟨0, List.replicate (xs.length + k / 32 + 1) 0, by omega, rfl, hb0, by simp, Small.replicate _, by rw [val_replicate]; simp [val, Hid], by rw [el_replicate]; exact Nat.pow_pos (by omega), fun j _ => el_replicate _ _, (Below.refl _ _).alloc (Nat.le_refl _) _⟩
  case round =>
    obtain ⟨m, out, hm, rfl, hblk, hlen, HS, HV, hlow, HZ, hB⟩ := hrel
    clear hb0
    have HB := Lib.hid hblk
    have HL := Lib.hid hlen
    clear hblk hlen
    by_cases hlt : m < xs.length
    · have hP1 := HX.out.below hB
      obtain ⟨b, o, rfl, hcx⟩ := hP1.2.2 (by omega)
      have hcx1 := hcx m hlt
      have hu := el_lt HS1.out m
      have hcell := HB.out.cell (m + k / 32) (by rw [HL.out]; omega)
      have hfree := HB.out.free (m + k / 32)
      have hcell1 := HB.out.cell (m + k / 32 + 1) (by rw [HL.out]; omega)
      have hfree1 := HB.out.free (m + k / 32 + 1)
      clear hcx hP1
      have hwr : IntKind.u64.wrap (((el xs m : Nat) : Int) * 2 ^ (k % 32)) = ((el xs m * 2 ^ (k % 32) : Nat) : Int) := by
        have h1 := pow_lt k
        have h2 : el xs m * 2 ^ (k % 32) ≤ 4294967296 * 2147483648 := Nat.mul_le_mul (by omega) h1
        have h3 : ((el xs m : Nat) : Int) * 2 ^ (k % 32) = ((el xs m * 2 ^ (k % 32) : Nat) : Int) := by rw [Int.natCast_mul, Int.natCast_pow]; rfl
        rw [h3, IntKind.wrap_u64]; omega
      have HW := Lib.hid hwr
      clear hwr
      go_wp2_with fail
      go_roundw
      case rel =>
        have hor := or_low (el xs m) (el out (m + k / 32)) (k % 32) (by omega) hlow
        have hll := low_lt (el xs m) (el out (m + k / 32)) (k % 32) (by omega) hlow
        have hhl := high_lt (el xs m) (k % 32) hu
        have hpl := pow_lt k
        have hel : el out (m + k / 32) < 4294967296 := by omega
        refine ⟨m + 1, _, by omega, by go_num, (HB.out.setI (m + k / 32) (el out (m + k / 32) + el xs m * 2 ^ (k % 32) % 4294967296) ?_).setI (m + k / 32 + 1) (el xs m * 2 ^ (k % 32) / 4294967296) ?_, ?_, (HS.out.set _ hll).set _ (by omega), ?_, ?_, ?_, (hB.setCell (by simp) _).setCell (by simp) _⟩
        · rw [HW.out, show (((el xs m * 2 ^ (k % 32) : Nat) : Int) % 4294967296) = ((el xs m * 2 ^ (k % 32) % 4294967296 : Nat) : Int) from by omega, u32_or_nat _ _ hel (by omega), hor]
        · rw [HW.out]; omega
        · rw [List.length_set, List.length_set]; exact HL.out
        · have h1 := shift_round (out := out) (x := el xs m) (k := k) (m := m) (by rw [HL.out]; omega) (HZ.out _ (by omega)) hu hlow
          show _ = _
          rw [h1, val_take_succ, HV.out, Nat.add_mul]
        · rw [show m + 1 + k / 32 = m + k / 32 + 1 from by omega, el_set _ _ _ _ (by rw [List.length_set, HL.out]; omega), if_pos rfl]; exact hhl
        · intro j hj
          rw [el_set _ _ _ _ (by rw [List.length_set, HL.out]; omega), if_neg (by omega), el_set _ _ _ _ (by rw [HL.out]; omega), if_neg (by omega)]
          exact HZ.out j (by omega)
      case measure => simp [intOf]; omega
    · have hkn : m = xs.length := by omega
      subst hkn
      have hp := HB.out.parts HS.out (by rw [HL.out]; omega)
      have hV := HV.out
      rw [val_take_all _ (Nat.le_refl _)] at hV
      have HO := Lib.hid (Own.of_blk HB.out HS.out (by rw [HL.out]; omega))
      have HV2 := Lib.hid hV
      have HP := Lib.hid hp
      clear hV hp hlow
      rw [show Value.slice (some { block := w.heap.size, off := 0 }) (xs.length + k / 32 + 1) (xs.length + k / 32 + 1) = Value.slice (some { block := w.heap.size, off := 0 }) out.length (xs.length + k / 32 + 1) from by rw [HL.out]]
      go_wp2_with (go_at_call 100; refine (cut_calls _ _ _ out HP.out (by rw [HL.out]; omega)).mono ?_; rintro e w1 ⟨rfl, rfl⟩)
      go_ret
      refine ⟨_, [w.heap.size], rfl, by have := HO.out; rw [HV2.out] at this; exact this, ⟨by simp, fun b hb => ?_⟩, hB⟩
      rw [List.mem_singleton] at hb; subst hb
      exact ⟨Nat.le_refl _, HB.out.lt⟩

set_option maxRecDepth 100000 in
theorem back_less (w : World) (A : Option Addr) (c : Nat) (xs : List Nat) (k : Nat) (hx : Parts w A xs) (hc : xs.length ≤ c) (hk : k ≤ 9223372036854775807) (hsk : k / 32 < xs.length) :
    Calls Tryz.prog 91 #[.slice A xs.length c, .int .u64 (k : Int)] w fun e w' => ∃ v bs, e = .returned v ∧ Own w' v (val xs / 2 ^ k) bs ∧ Fresh w.heap.size w' bs ∧ Below w.heap.size w w' := by
  have hlx := hx.2.1
  have HS1 := Lib.hid hx.1
  have HX := Lib.hid hx
  clear hx
  have hmk := make_nat ((xs.length : Int) - (k : Int) / 32) (xs.length - k / 32) (by omega) (by omega)
  go_enter Tryz.func91, Tryz.ntmps91
  go_wp2_with fail
  clear hmk
  have hb0 := Blk.new w (List.replicate (xs.length - k / 32) 0)
  have hb0' : Blk (w.alloc (.cells (u32s (List.replicate (xs.length - k / 32) 0)) 62)) w.heap.size (List.replicate (xs.length - k / 32) 0) := hb0
  go_loopw [19] (fun i wr => ∃ (m : Nat) (out : List Nat), m ≤ xs.length - k / 32 ∧ i = .int .i64 m ∧ Blk wr w.heap.size out ∧ out.length = xs.length - k / 32 ∧ Hid (Small out) ∧ Hid (2 ^ (k % 32) * val (out.take m) + el xs (k / 32) % 2 ^ (k % 32) = val ((xs.drop (k / 32)).take m) + el xs (k / 32 + m) % 2 ^ (k % 32) * pw m) ∧ Below w.heap.size w wr) (fun i _ => xs.length - k / 32 - (intOf i).toNat)
  case atStart => exact ⟨0, List.replicate (xs.length - k / 32) 0, by omega, rfl, by first | exact hb0 | simpa [Nat.sub_eq_zero_of_le hsk] using hb0, by simp, Small.replicate _, by simp [val, Hid, pw_zero], (Below.refl _ _).alloc (Nat.le_refl _) _⟩
  case round =>
   obtain ⟨m, out, hm, rfl, hblk, hlen, HS, HV, hB⟩ := hrel
   clear hb0 hb0'
   have HB := Lib.hid hblk
   have HL := Lib.hid hlen
   clear hblk hlen
   by_cases hlt : m < xs.length - k / 32
   · have hP1 := HX.out.below hB
     have hcell := HB.out.cell m (by rw [HL.out]; omega)
     have hfree := HB.out.free m
     have hu := atV_lt HS1.out ((m : Int) + (k : Int) / 32 + 1)
     have hv := atV_lt HS1.out ((m : Int) + (k : Int) / 32)
     go_wp2_with fail
     refine (at_calls _ _ _ xs _ hP1).mono ?_
     rintro e w1 ⟨rfl, rfl⟩
     go_wp2_with fail
     refine (at_calls _ _ _ xs _ hP1).mono ?_
     rintro e w1 ⟨rfl, rfl⟩
     go_wp2_with fail
     go_roundw
     case rel =>
       rw [show (m : Int) + (k : Int) / 32 + 1 = ((k / 32 + m + 1 : Nat) : Int) from by omega, atV_nat] at hu
       rw [show (m : Int) + (k : Int) / 32 = ((k / 32 + m : Nat) : Int) from by omega, atV_nat] at hv
       refine ⟨m + 1, _, by omega, by go_num, HB.out.setI m ((el xs (k / 32 + m + 1) * 4294967296 + el xs (k / 32 + m)) / 2 ^ (k % 32) % 4294967296) ?_, ?_, HS.out.set _ (by omega), ?_, hB.setCell (by simp) _⟩
       · rw [show (m : Int) + (k : Int) / 32 + 1 = ((k / 32 + m + 1 : Nat) : Int) from by omega, show (m : Int) + (k : Int) / 32 = ((k / 32 + m : Nat) : Int) from by omega, atV_nat, atV_nat, or_join _ _ hu hv]
         rw [Int.natCast_emod, Int.natCast_ediv, Int.natCast_pow, Int.natCast_add, Int.natCast_mul]
         rfl
       · rw [List.length_set]; exact HL.out
       · have h1 := val_take_set out m ((el xs (k / 32 + m + 1) * 4294967296 + el xs (k / 32 + m)) / 2 ^ (k % 32) % 4294967296) (by rw [HL.out]; exact hlt)
         have h2 := val_take_succ (xs.drop (k / 32)) m
         have h3 : el (xs.drop (k / 32)) m = el xs (k / 32 + m) := by unfold el; rw [List.getElem?_drop]
         rw [h3] at h2
         show _ = _
         rw [h1, h2, ← Nat.add_assoc]
         exact back_round (by omega) hv HV.out
     case measure => simp [intOf]; omega
   · have hkn : m = xs.length - k / 32 := by omega
     subst hkn
     have hp := HB.out.parts HS.out (by rw [HL.out]; omega)
     have hV := HV.out
     rw [val_take_all out (by rw [HL.out]; omega), val_take_all _ (by rw [List.length_drop]; omega), el_ge (l := xs) (i := k / 32 + (xs.length - k / 32)) (by omega), Nat.zero_mod, Nat.zero_mul, Nat.add_zero] at hV
     have hV2 := back_end HS1.out hV
     have HO := Lib.hid (Own.of_blk HB.out HS.out (by rw [HL.out]; omega))
     have HV2 := Lib.hid hV2
     have HP := Lib.hid hp
     clear hV hp hV2
     rw [show Value.slice (some { block := w.heap.size, off := 0 }) (xs.length - k / 32) (xs.length - k / 32) = Value.slice (some { block := w.heap.size, off := 0 }) out.length (xs.length - k / 32) from by rw [HL.out]]
     go_wp2_with (go_at_call 100; refine (cut_calls _ _ _ out HP.out (by rw [HL.out]; omega)).mono ?_; rintro e w1 ⟨rfl, rfl⟩)
     go_ret
     refine ⟨_, [w.heap.size], rfl, by have := HO.out; rw [HV2.out] at this; exact this, ⟨by simp, fun b hb => ?_⟩, hB⟩
     rw [List.mem_singleton] at hb; subst hb
     exact ⟨Nat.le_refl _, HB.out.lt⟩

set_option maxRecDepth 100000 in
theorem back_more (w : World) (A : Option Addr) (c : Nat) (xs : List Nat) (k : Nat) (hx : Parts w A xs) (hc : xs.length ≤ c) (hk : k ≤ 9223372036854775807) (hsk : xs.length ≤ k / 32) :
    Calls Tryz.prog 91 #[.slice A xs.length c, .int .u64 (k : Int)] w fun e w' => ∃ v bs, e = .returned v ∧ Own w' v (val xs / 2 ^ k) bs ∧ Fresh w.heap.size w' bs ∧ Below w.heap.size w w' := by
  have hlx := hx.2.1
  have HS1 := Lib.hid hx.1
  have HX := Lib.hid hx
  clear hx
  have hmk := make_nat 0 0 rfl (by omega)
  go_enter Tryz.func91, Tryz.ntmps91
  go_wp2_with fail
  clear hmk
  have HB := Lib.hid (Blk.new w (List.replicate 0 0))
  go_loopw [19] (fun i wr => i = .int .i64 0 ∧ wr = w.alloc (.cells (u32s (List.replicate 0 0)) 62)) (fun i _ => 0)
  case atStart => exact ⟨rfl, rfl⟩
  case round =>
    obtain ⟨rfl, rfl⟩ := hrel
    go_wp2_with (go_at_call 100; refine (cut_calls _ _ _ [] (Parts.nil _ _) (Nat.le_refl _)).mono ?_; rintro e w1 ⟨rfl, rfl⟩)
    go_ret
    have h0 : val xs / 2 ^ k = 0 := by
      rw [pow_split k, Nat.mul_comm, ← Nat.div_div_eq_div_mul, val_drop xs HS1.out, List.drop_of_length_le hsk, val, Nat.zero_div]
    have HO := Own.of_blk HB.out (Small.replicate 0) (by simp)
    rw [h0]
    exact ⟨_, [w.heap.size], rfl, HO, ⟨by simp, fun b hb => by rw [List.mem_singleton] at hb; subst hb; exact ⟨Nat.le_refl _, HB.out.lt⟩⟩, (Below.refl _ _).alloc (Nat.le_refl _) _⟩

theorem back_calls (w : World) (A : Option Addr) (c : Nat) (xs : List Nat) (k : Nat) (hx : Parts w A xs) (hc : xs.length ≤ c) (hk : k ≤ 9223372036854775807) :
    Calls Tryz.prog 91 #[.slice A xs.length c, .int .u64 (k : Int)] w fun e w' => ∃ v bs, e = .returned v ∧ Own w' v (val xs / 2 ^ k) bs ∧ Fresh w.heap.size w' bs ∧ Below w.heap.size w w' := by
  rcases Nat.lt_or_ge (k / 32) xs.length with h | h
  · exact back_less w A c xs k hx hc hk h
  · exact back_more w A c xs k hx hc hk h

end Go.Proofs.YthofbikhomnjpaaGreatDoor
