import Derived.Test.YthofbikhomnjpaaGreatDoorN3
import Derived.Deep.RegionWith
import Derived.Deep.RegionLaw
import Derived.Deep.RegionHeld3
import Derived.Deep.DeepCutAuto
namespace Go.Proofs.YthofbikhomnjpaaGreatDoor
open Go.RowKit
set_option linter.unusedVariables false
set_option linter.unusedSimpArgs false
attribute [local go_sem] max2_is max_is min2_is min_is

set_option maxRecDepth 100000 in
theorem minus_calls (w : World) (A A' : Option Addr) (c c' : Nat) (xs ys : List Nat) (hx : Parts w A xs) (hy : Parts w A' ys) (hc : xs.length ≤ c) (hc' : ys.length ≤ c') (hle : val ys ≤ val xs) :
    Calls Tryz.prog 93 #[.slice A xs.length c, .slice A' ys.length c'] w fun e w' => ∃ v bs, e = .returned v ∧ Own w' v (val xs - val ys) bs ∧ Fresh w.heap.size w' bs ∧ Below w.heap.size w w' := by
  have hlx := hx.2.1
  have hmk := make_nat _ xs.length rfl (by omega)
  have HP1 := Lib.hid hx
  have HP2 := Lib.hid hy
  have HS1 := Lib.hid hx.1
  have HS2 := Lib.hid hy.1
  have HLE := Lib.hid hle
  clear hx hy hle
  go_enter Tryz.func93, Tryz.ntmps93
  go_wp2_with fail
  clear hmk
  have hb0 := Blk.new w (List.replicate xs.length 0)
  go_loopw [6, 13] (fun cr i wr => ∃ (k cc : Nat) (out : List Nat), k ≤ xs.length ∧ cc ≤ 1 ∧ i = .int .i64 k ∧ cr = .int .u32 cc ∧ Blk wr w.heap.size out ∧ out.length = xs.length ∧ Hid (Small out) ∧ Hid (val (out.take k) + val (ys.take k) = val (xs.take k) + cc * pw k) ∧ Below w.heap.size w wr) (fun _ i _ => xs.length - (intOf i).toNat)
  case atStart => exact ⟨0, 0, List.replicate xs.length 0, by omega, by omega, rfl, rfl, hb0, by simp, Small.replicate _, by simp [val, Hid], (Below.refl _ _).alloc (Nat.le_refl _) _⟩
  case round =>
    obtain ⟨k, cc, out, hk, hcc, rfl, rfl, hblk, hlen, HS, HV, hB⟩ := hrel
    clear hb0
    have hP1 := (HP1.out.below hB)
    have hP2 := HP2.out.below hB
    by_cases hlt : k < xs.length
    · have hu := el_lt HS1.out k
      have hv := atV_lt HS2.out (k : Int)
      have hcell := hblk.cell k (by omega)
      have hfree := hblk.free k
      have hlt' : decide (k < xs.length) = true := decide_eq_true hlt
      obtain ⟨b, o, rfl, hcx⟩ := hP1.2.2 (by omega)
      have hcx1 := hcx k hlt
      have HB := Lib.hid hblk
      have HL := Lib.hid hlen
      clear hblk hlen hcx hP1
      go_wp2_with fail
      have HP3 : Hid (Parts wr.drew A' ys) := hP2.below (Below.refl _ _).drew
      have hw : IntKind.u32.wrap ((atV ys (k : Int) : Nat) : Int) = ((atV ys (k : Int) : Nat) : Int) := by rw [IntKind.wrap_u32]; omega
      clear hP2
      go_region_with (first
        | (go_at_call 113; ((with_reducible refine (at_calls _ _ _ _ _ HP3.out).mono ?_); rintro e w1 ⟨rfl, rfl⟩))
        | (go_at_call 114; ((with_reducible refine (sub32_calls _ _ _ _ hu hv hcc).mono ?_); rintro e w1 ⟨rfl, rfl⟩)))
      all_goals
        clear hw
        go_wp2_with fail
        go_roundw
        case rel =>
          refine ⟨k + 1, owes (el xs k) (atV ys (k : Int)) cc, out.set k (diff (el xs k) (atV ys (k : Int)) cc), by omega, owes_le _ _ _, by go_num, rfl, (HB.out.below (Below.refl _ _).drew).set k _, ?_, HS.out.set k (diff_lt _ _ _), ?_, hB.drew.setCell (by simp) _⟩
          · rw [List.length_set]; exact HL.out
          · have h1 := val_take_set out k (diff (el xs k) (atV ys (k : Int)) cc) (by rw [HL.out]; exact hlt)
            have h2 := val_take_succ xs k
            have h3 := val_take_succ ys k
            rw [atV_nat] at h1 hv ⊢
            show _ = _
            rw [h1, h2, h3]
            exact sub_round hu hv hcc HV.out
        case measure => simp [intOf]; omega
    · have hkn : k = xs.length := by omega
      subst hkn
      have HB := Lib.hid hblk
      have HL := Lib.hid hlen
      clear hblk hlen
      have hp := HB.out.parts HS.out (by rw [HL.out]; omega)
      have hV := HV.out
      have hlo := val_lt' HS.out
      rw [HL.out] at hlo
      rw [val_take_all out (by rw [HL.out]; omega), val_take_all xs (by omega)] at hV
      have hyt : val (ys.take xs.length) = val ys := by
        have h1 := val_append' (ys.take xs.length) (ys.drop xs.length)
        rw [List.take_append_drop] at h1
        have h2 := val_lt' HS1.out
        have h3 := HLE.out
        by_cases hyl : ys.length ≤ xs.length
        · rw [val_take_all _ hyl]
        · rw [List.length_take, Nat.min_eq_left (by omega)] at h1
          rcases Nat.eq_zero_or_pos (val (ys.drop xs.length)) with h4 | h4
          · rw [h4, Nat.mul_zero] at h1; omega
          · have h5 := Nat.le_mul_of_pos_right (pw xs.length) h4; omega
      rw [hyt] at hV
      have h0 : cc = 0 := by
        have h3 := HLE.out
        rcases (show cc = 0 ∨ cc = 1 by omega) with h | h
        · exact h
        · subst h; omega
      subst h0
      rw [Nat.zero_mul, Nat.add_zero] at hV
      have HO := Lib.hid (Own.of_blk HB.out HS.out (by rw [HL.out]; omega))
      have HV2 : Hid (val out = val xs - val ys) := by show _ = _; omega
      have HP := Lib.hid hp
      clear hV hlo hyt hp
      rw [show Value.slice (some { block := w.heap.size, off := 0 }) xs.length xs.length = Value.slice (some { block := w.heap.size, off := 0 }) out.length xs.length from by rw [HL.out]]
      go_wp2_with (go_at_call 100; refine (cut_calls _ _ _ out HP.out (by rw [HL.out]; omega)).mono ?_; rintro e w1 ⟨rfl, rfl⟩)
      go_ret
      refine ⟨_, [w.heap.size], rfl, by have := HO.out; rw [HV2.out] at this; exact this, ⟨by simp, fun b hb => ?_⟩, hB⟩
      rw [List.mem_singleton] at hb; subst hb
      exact ⟨Nat.le_refl _, HB.out.lt⟩

end Go.Proofs.YthofbikhomnjpaaGreatDoor
