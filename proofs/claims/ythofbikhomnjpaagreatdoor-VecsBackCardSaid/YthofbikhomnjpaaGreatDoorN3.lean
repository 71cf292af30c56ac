import Derived.Test.YthofbikhomnjpaaGreatDoorN2
namespace Go.Proofs.YthofbikhomnjpaaGreatDoor
open Go.RowKit
set_option linter.unusedVariables false
set_option linter.unusedSimpArgs false
attribute [local go_sem] max2_is max_is min2_is min_is

theorem make_nat (e : Int) (n : Nat) (he : e = n) (h1 : n ≤ 70368744177664) (W : World) :
    (Instr.makeSlice 32 (.int .i64 e) (.int .i64 e)).run Tryz.prog W = .ok (.slice (some ⟨W.heap.size, 0, none⟩) n n) (W.alloc (.cells (u32s (List.replicate n 0)) 62)) := by
  subst he
  have := make_parts (n : Int) (by omega) (by omega) W
  rwa [Int.toNat_natCast] at this

set_option maxRecDepth 100000 in
theorem add_calls (w : World) (A A' : Option Addr) (c c' : Nat) (xs ys : List Nat) (hx : Parts w A xs) (hy : Parts w A' ys) (hc : xs.length ≤ c) (hc' : ys.length ≤ c') (hsz : xs.length + ys.length ≤ 17592186044416) :
    Calls Tryz.prog 116 #[.slice A xs.length c, .slice A' ys.length c'] w fun e w' => ∃ v bs, e = .returned v ∧ Own w' v (fval xs + fval ys) bs ∧ Fresh w.heap.size w' bs ∧ Below w.heap.size w w' := by
  have hlx := fineL_length xs
  have hly := fineL_length ys
  have HFX := Lib.hid (val_fineL xs)
  have HFY := Lib.hid (val_fineL ys)
  obtain ⟨n, hn⟩ : ∃ n : Nat, max ((fineL xs).length : Int) ((fineL ys).length : Int) + 1 = (n : Int) := ⟨max (fineL xs).length (fineL ys).length + 1, by omega⟩
  have hn1 : n ≤ 35184372088064 := by omega
  have hn2 : (fineL xs).length < n := by omega
  have hn3 : (fineL ys).length < n := by omega
  have hmk := make_nat _ n hn (by omega)
  have HN := Lib.hid hn
  clear hn
  go_enter Tryz.func116, Tryz.ntmps116
  go_wp2_with fail
  refine (fine_calls _ _ _ xs hx hc).mono ?_
  rintro e w' ⟨A1, c1, rfl, hl1, hlc1, hp1, rfl⟩
  go_wp2_with fail
  refine (fine_calls _ _ _ ys hy hc').mono ?_
  rintro e w' ⟨A2, c2, rfl, hl2, hlc2, hp2, rfl⟩
  go_wp2_with fail
  have HP1 := Lib.hid hp1
  have HP2 := Lib.hid hp2
  have HS1 := Lib.hid hp1.1
  have HS2 := Lib.hid hp2.1
  clear hp1 hp2 hmk hx hy
  generalize fineL xs = us at *
  generalize fineL ys = vs at *
  have hb0 := Blk.new w' (List.replicate n 0)
  go_loopw [6, 21] (fun cr i wr => ∃ (k cc : Nat) (out : List Nat), k ≤ n ∧ cc ≤ 1 ∧ i = .int .i64 k ∧ cr = .int .u32 cc ∧ Blk wr w'.heap.size out ∧ out.length = n ∧ Hid (Small out) ∧ Hid (val (out.take k) + cc * pw k = val (us.take k) + val (vs.take k)) ∧ Below w'.heap.size w' wr) (fun _ i _ => n - (intOf i).toNat)
  case atStart => exact ⟨0, 0, List.replicate n 0, by omega, by omega, rfl, rfl, hb0, by simp, Small.replicate n, by simp [val, Hid], (Below.refl _ _).alloc (Nat.le_refl _) _⟩
  case round =>
    obtain ⟨k, cc, out, hk, hcc, rfl, rfl, hblk, hlen, HS, HV, hB⟩ := hrel
    clear hb0
    have hP1 := HP1.out.below hB
    have hP2 := HP2.out.below hB
    by_cases hlt : k < n
    · have hu := atV_lt HS1.out (k : Int)
      have hv := atV_lt HS2.out (k : Int)
      have hcell := hblk.cell k (by omega)
      have hfree := hblk.free k
      have HB := Lib.hid hblk
      have HL := Lib.hid hlen
      clear hblk hlen
      go_wp2_with fail
      refine (at_calls _ _ _ us _ hP1).mono ?_
      rintro e w1 ⟨rfl, rfl⟩
      go_wp2_with fail
      refine (at_calls _ _ _ vs _ hP2).mono ?_
      rintro e w1 ⟨rfl, rfl⟩
      go_wp2_with fail
      refine (add32_calls _ _ _ _ hu hv hcc).mono ?_
      rintro e w1 ⟨rfl, rfl⟩
      go_wp2_with fail
      go_roundw
      case rel =>
        refine ⟨k + 1, (atV us (k : Int) + atV vs (k : Int) + cc) / 4294967296, out.set k ((atV us (k : Int) + atV vs (k : Int) + cc) % 4294967296), by omega, by omega, by go_num, rfl, HB.out.set k _, ?_, HS.out.set k (by omega), ?_, hB.setCell (by simp) _⟩
        · rw [List.length_set]; exact HL.out
        · have h1 := val_take_set out k ((atV us (k : Int) + atV vs (k : Int) + cc) % 4294967296) (by rw [HL.out]; exact hlt)
          have h2 := val_take_succ us k
          have h3 := val_take_succ vs k
          rw [atV_nat, atV_nat] at h1 ⊢
          show _ = _
          rw [h1, h2, h3]
          exact add_round HV.out
      case measure => simp [intOf]; omega
    · have hkn : k = n := by omega
      subst hkn
      have HB := Lib.hid hblk
      have HL := Lib.hid hlen
      clear hblk hlen
      have hp := HB.out.parts HS.out (by rw [HL.out]; omega)
      have hV := HV.out
      rw [val_take_all _ (by rw [HL.out]; omega), val_take_all _ (by omega), val_take_all _ (by omega), HFX.out, HFY.out] at hV
      have hlt1 := val_lt' HS1.out
      have hlt2 := val_lt' HS2.out
      rw [HFX.out] at hlt1
      rw [HFY.out] at hlt2
      have h0 : cc = 0 := by
        obtain ⟨m, rfl⟩ : ∃ m, k = m + 1 := ⟨k - 1, by omega⟩
        have h1 := pw_mono (show us.length ≤ m by omega)
        have h2 := pw_mono (show vs.length ≤ m by omega)
        rw [pw_succ] at hV
        rcases (show cc = 0 ∨ cc = 1 by omega) with h | h
        · exact h
        · subst h; omega
      subst h0
      rw [Nat.zero_mul, Nat.add_zero] at hV
      have HO := Lib.hid (Own.of_blk HB.out HS.out (by rw [HL.out]; omega))
      have HV2 := Lib.hid hV
      have HP := Lib.hid hp
      clear hV hlt1 hlt2 hp
      rw [show Value.slice (some { block := w'.heap.size, off := 0 }) k k = Value.slice (some { block := w'.heap.size, off := 0 }) out.length k from by rw [HL.out]]
      go_wp2_with (go_at_call 100; refine (cut_calls _ _ _ out HP.out (by rw [HL.out]; omega)).mono ?_; rintro e w1 ⟨rfl, rfl⟩)
      go_ret
      refine ⟨_, [w'.heap.size], rfl, by have := HO.out; rw [HV2.out] at this; exact this, ⟨by simp, fun b hb => ?_⟩, hB⟩
      rw [List.mem_singleton] at hb; subst hb
      exact ⟨Nat.le_refl _, HB.out.lt⟩

end Go.Proofs.YthofbikhomnjpaaGreatDoor
