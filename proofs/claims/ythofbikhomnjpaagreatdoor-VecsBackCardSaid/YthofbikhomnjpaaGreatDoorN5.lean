import Derived.Test.YthofbikhomnjpaaGreatDoorN3
namespace Go.Proofs.YthofbikhomnjpaaGreatDoor
open Go.RowKit
set_option linter.unusedVariables false
set_option linter.unusedSimpArgs false

set_option maxRecDepth 100000 in
set_option maxHeartbeats 800000 in
theorem mul_calls (w : World) (A A' : Option Addr) (c c' : Nat) (xs ys : List Nat) (hx : Parts w A xs) (hy : Parts w A' ys) (hc : xs.length ≤ c) (hc' : ys.length ≤ c') (hsz : xs.length + ys.length ≤ 17592186044416) :
    Calls Tryz.prog 77 #[.slice A xs.length c, .slice A' ys.length c'] w fun e w' => ∃ v bs, e = .returned v ∧ Own w' v (fval xs * fval ys) bs ∧ Fresh w.heap.size w' bs ∧ Below w.heap.size w w' := by
  have hlx := fineL_length xs
  have hly := fineL_length ys
  have HFX := Lib.hid (val_fineL xs)
  have HFY := Lib.hid (val_fineL ys)
  have hmk := make_nat _ ((fineL xs).length + (fineL ys).length) (show ((fineL xs).length : Int) + ((fineL ys).length : Int) = (((fineL xs).length + (fineL ys).length : Nat) : Int) from by omega) (by omega)
  go_enter Tryz.func77, Tryz.ntmps77
  go_wp2_with fail
  refine (fine_calls _ _ _ xs hx hc).mono ?_
  rintro e w' ⟨A1, c1, rfl, hl1, hlc1, hp1, rfl⟩
  go_wp2_with fail
  refine (fine_calls _ _ _ ys hy hc').mono ?_
  rintro e w' ⟨A2, c2, rfl, hl2, hlc2, hp2, rfl⟩
  go_wp2_with fail
  have HP1 := Lib.hid hp1
  have HP2 := Lib.hid hp2
  have HS1 := Lib.hid hp1.1
  have HS2 := Lib.hid hp2.1
  clear hp1 hp2 hmk hx hy
  generalize fineL xs = us at *
  generalize fineL ys = vs at *
  have hb0 := Blk.new w' (List.replicate (us.length + vs.length) 0)
  go_loopw [23] (fun i wr => ∃ (k : Nat) (out : List Nat), k ≤ us.length ∧ i = .int .i64 k ∧ Blk wr w'.heap.size out ∧ out.length = us.length + vs.length ∧ Hid (Small out) ∧ Hid (val out = val (us.take k) * val vs) ∧ Hid (∀ j, k + vs.length ≤ j → el out j = 0) ∧ Below w'.heap.size w' wr) (fun i _ => us.length - (intOf i).toNat)
  case atStart => exact ⟨0, List.replicate (us.length + vs.length) 0, by omega, rfl, hb0, by simp, Small.replicate _, by rw [val_replicate]; simp [val, Hid], fun j _ => el_replicate _ _, (Below.refl _ _).alloc (Nat.le_refl _) _⟩
  case round =>
    obtain ⟨k, out, hk, rfl, hblk, hlen, HS, HV, HZ, hB⟩ := hrel
    clear hb0
    have HB := Lib.hid hblk
    have HL := Lib.hid hlen
    clear hblk hlen
    by_cases hlt : k < us.length
    · have hP1 := HP1.out.below hB
      obtain ⟨b, o, rfl, hcx⟩ := hP1.2.2 (by omega)
      have hcx1 := hcx k hlt
      have hu := el_lt HS1.out k
      clear hcx hP1
      go_wp2_with fail
      obtain ⟨wo, rfl⟩ : ∃ wo : World, wo = wr := ⟨_, rfl⟩
      go_loopw [8, 30] (fun hi j wq => ∃ (m h : Nat) (o : List Nat), m ≤ vs.length ∧ h < 4294967296 ∧ hi = .int .u64 h ∧ j = .int .i64 m ∧ Blk wq w'.heap.size o ∧ o.length = us.length + vs.length ∧ Hid (Small o) ∧ Hid (val o + h * pw (k + m) = val out + el us k * val (vs.take m) * pw k) ∧ Hid (∀ j, k + vs.length ≤ j → el o j = 0) ∧ Below w'.heap.size w' wq) (fun _ j _ => vs.length - (intOf j).toNat)
      case atStart => exact ⟨0, 0, out, by omega, by omega, rfl, rfl, HB.out, HL.out, HS, by simp [val, Hid], HZ, hB⟩
      case round =>
        clear hB HB HL HS hcx1
        obtain ⟨m, h, o, hm, hh, rfl, rfl, hblk, hlen, HS, HVV, HZZ, hB⟩ := hrel
        by_cases hlt2 : m < vs.length
        · have hP2 := HP2.out.below hB
          obtain ⟨b2, o2, rfl, hcy⟩ := hP2.2.2 (by omega)
          have hcy1 := hcy m hlt2
          have hv := el_lt HS2.out m
          have ho := el_lt HS.out (k + m)
          have hcell := hblk.cell (k + m) (by omega)
          have hfree := hblk.free (k + m)
          have hxy := small_mul hu hv
          have hxy1 : ((el us k : Nat) : Int) * ((el vs m : Nat) : Int) ≤ 18446744065119617025 := by rw [← Int.natCast_mul]; omega
          have hxy0 : 0 ≤ ((el us k : Nat) : Int) * ((el vs m : Nat) : Int) := by rw [← Int.natCast_mul]; omega
          have HB := Lib.hid hblk
          have HL := Lib.hid hlen
          clear hblk hlen hcy hP2
          go_wp2_with fail
          go_roundw
          case rel =>
            have e : ((el us k : Nat) : Int) * ((el vs m : Nat) : Int) = ((el us k * el vs m : Nat) : Int) := by rw [Int.natCast_mul]
            refine ⟨m + 1, (h + (el us k * el vs m + el o (k + m))) / 4294967296, o.set (k + m) ((h + (el us k * el vs m + el o (k + m))) % 4294967296), by omega, by omega, ?_, by go_num, ?_, ?_, HS.out.set _ (by omega), ?_, ?_, ?_⟩
            · refine int_eq ?_
              rw [e]; omega
            · exact HB.out.setI _ _ (by rw [e]; omega)
            · rw [List.length_set]; exact HL.out
            · have h1 := val_set o (k + m) ((h + (el us k * el vs m + el o (k + m))) % 4294967296) (by rw [HL.out]; omega)
              have h2 := val_take_succ vs m
              have h3 := HVV.out
              have h4 := mul_round (x := el us k) (y := el vs m) (k := m) (i := k) (o := el o (k + m)) h3 _ rfl
              show _ = _
              rw [h2, Nat.mul_add, Nat.add_mul, ← Nat.mul_assoc (el us k), Nat.mul_assoc (el us k * el vs m), Nat.mul_comm (pw m) (pw k), ← pw_add]
              rw [Nat.add_mul (el us k * el vs m)] at h4
              rw [← Nat.add_assoc k m 1]
              omega
            · intro j hj
              rw [el_set _ _ _ _ (by rw [HL.out]; omega), if_neg (by omega)]
              exact HZZ.out j hj
            · exact hB.setCell (by simp) _
          case measure => simp [intOf]; omega
        · have hmv : m = vs.length := by omega
          subst hmv
          have hcell := hblk.cell (k + vs.length) (by omega)
          have hfree := hblk.free (k + vs.length)
          have HB := Lib.hid hblk
          have HL := Lib.hid hlen
          clear hblk hlen
          go_wp2_with fail
          go_roundw
          case rel =>
            refine ⟨k + 1, o.set (k + vs.length) h, by omega, by go_num, HB.out.setI _ _ (by omega), by rw [List.length_set]; exact HL.out, HS.out.set _ hh, ?_, ?_, hB.setCell (by simp) _⟩
            · have h1 := val_set o (k + vs.length) h (by rw [HL.out]; omega)
              rw [HZZ.out _ (Nat.le_refl _), Nat.zero_mul, Nat.add_zero] at h1
              have h2 := val_take_succ us k
              have h3 := HVV.out
              rw [val_take_all _ (Nat.le_refl _), HV.out] at h3
              show _ = _
              rw [h1, h3, h2, Nat.add_mul, Nat.mul_assoc, Nat.mul_assoc, Nat.mul_comm (pw k)]
            · intro j hj
              rw [el_set _ _ _ _ (by rw [HL.out]; omega), if_neg (by omega)]
              exact HZZ.out j (by omega)
          case measure => simp [intOf]; omega
    · have hkn : k = us.length := by omega
      subst hkn
      have hp := HB.out.parts HS.out (by rw [HL.out]; omega)
      have hV := HV.out
      rw [val_take_all _ (Nat.le_refl _), HFX.out, HFY.out] at hV
      have HO := Lib.hid (Own.of_blk HB.out HS.out (by rw [HL.out]; omega))
      have HV2 := Lib.hid hV
      have HP := Lib.hid hp
      clear hV hp
      rw [show Value.slice (some { block := w'.heap.size, off := 0 }) (us.length + vs.length) (us.length + vs.length) = Value.slice (some { block := w'.heap.size, off := 0 }) out.length (us.length + vs.length) from by rw [HL.out]]
      go_wp2_with (go_at_call 100; refine (cut_calls _ _ _ out HP.out (by rw [HL.out]; omega)).mono ?_; rintro e w1 ⟨rfl, rfl⟩)
      go_ret
      refine ⟨_, [w'.heap.size], rfl, by have := HO.out; rw [HV2.out] at this; exact this, ⟨by simp, fun b hb => ?_⟩, hB⟩
      rw [List.mem_singleton] at hb; subst hb
      exact ⟨Nat.le_refl _, HB.out.lt⟩

end Go.Proofs.YthofbikhomnjpaaGreatDoor
