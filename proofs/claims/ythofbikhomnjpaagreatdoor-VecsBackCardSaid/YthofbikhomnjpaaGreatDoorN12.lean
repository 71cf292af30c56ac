import Derived.Test.YthofbikhomnjpaaGreatDoorN11
import Derived.Test.YthofbikhomnjpaaGreatDoorN4
import Derived.Deep.LoopGhost
/-! What is left of two numbers; the greatest by which both can be divided. -/
namespace Go.Proofs.YthofbikhomnjpaaGreatDoor
open Go.RowKit
set_option linter.unusedVariables false
set_option linter.unusedSimpArgs false
attribute [local go_sem] max2_is max_is min2_is min_is

set_option maxRecDepth 100000 in
theorem sub_calls (w : World) (A A' : Option Addr) (c c' : Nat) (xs ys : List Nat) (hx : Parts w A xs) (hy : Parts w A' ys) (hc : xs.length ≤ c) (hc' : ys.length ≤ c') (hkx : okL xs = true) (hky : okL ys = true) (hle : val ys ≤ val xs) :
    Calls Tryz.prog 117 #[.slice A xs.length c, .slice A' ys.length c'] w fun e w' => ∃ v bs, e = .returned (.tuple #[v, .int .i64 0]) ∧ Own w' v (val xs - val ys) bs ∧ Fresh w.heap.size w' bs ∧ Below w.heap.size w w' := by
  have HX := Lib.hid hx
  have HY := Lib.hid hy
  have hcm : decide (cmpN (fval xs) (fval ys) < 0) = false := decide_eq_false (by rw [fval_ok hkx, fval_ok hky]; have := cmpN_ge hle; omega)
  clear hx hy
  go_enter Tryz.func117, Tryz.ntmps117
  go_wp2_with fail
  refine (check_calls _ _ _ xs HX.out).mono ?_
  rintro e w1 ⟨rfl, rfl⟩
  go_wp2_with fail
  refine (check_calls _ _ _ ys HY.out).mono ?_
  rintro e w1 ⟨rfl, rfl⟩
  go_wp2_with fail
  refine (cmp_calls _ _ _ _ _ xs ys HX.out HY.out hc hc').mono ?_
  rintro e w1 ⟨rfl, hB1⟩
  go_wp2_with fail
  refine (minus_calls _ _ _ _ _ xs ys (HX.out.below hB1) (HY.out.below hB1) hc hc' hle).mono ?_
  rintro e w2 ⟨v, bs, rfl, hown, hfr, hB2⟩
  have HO := Lib.hid hown
  clear hown
  go_wp2_with fail
  go_ret2
  exact ⟨v, bs, rfl, HO.out, hfr.low hB1.size, hB1.trans (hB2.mono hB1.size)⟩

theorem cmpN_gt {a b : Nat} (h : b < a) : cmpN a b = 1 := by unfold cmpN; rw [if_neg (by omega), if_neg (by omega)]
theorem odd_coprime {a : Nat} (h : a % 2 = 1) (k : Nat) : Nat.Coprime a (2 ^ k) := by
  refine Nat.Coprime.pow_right k ?_
  have : Nat.gcd a 2 = 1 := by rw [Nat.gcd_comm, Nat.gcd_rec, h]; decide
  exact this
theorem gcd_start {A B n m : Nat} (hA : isTz A n) (hB : isTz B m) : Nat.gcd A B = Nat.gcd (A / 2 ^ n) (B / 2 ^ m) * 2 ^ min n m := by
  obtain ⟨a1, a2⟩ := hA.div
  obtain ⟨b1, b2⟩ := hB.div
  generalize A / 2 ^ n = a at *
  generalize B / 2 ^ m = b at *
  subst a2 b2
  rcases Nat.le_total n m with h | h
  · obtain ⟨d, rfl⟩ := Nat.le.dest h
    rw [Nat.min_eq_left h, Nat.pow_add, Nat.mul_assoc, Nat.gcd_mul_left, Nat.mul_comm (2 ^ d) b, Nat.mul_comm]
    congr 1
    exact ((odd_coprime a1 d).symm).gcd_mul_right_cancel_right b
  · obtain ⟨d, rfl⟩ := Nat.le.dest h
    rw [Nat.min_eq_right h, Nat.pow_add, Nat.mul_assoc, Nat.gcd_mul_left, Nat.mul_comm (2 ^ d) a, Nat.mul_comm]
    congr 1
    exact ((odd_coprime b1 d).symm).gcd_mul_right_cancel a
theorem gcd_step {x y k : Nat} (hx : x % 2 = 1) (hxy : x < y) (hk : isTz (y - x) k) : Nat.gcd x ((y - x) / 2 ^ k) = Nat.gcd x y := by
  obtain ⟨b1, b2⟩ := hk.div
  have h1 : Nat.gcd x (y - x) = Nat.gcd x y := Nat.gcd_sub_self_right (by omega)
  rw [← h1]
  generalize (y - x) / 2 ^ k = b at *
  rw [b2, Nat.mul_comm]
  exact (((odd_coprime hx k).symm).gcd_mul_right_cancel_right b).symm

set_option maxRecDepth 100000 in
set_option maxHeartbeats 4000000 in
theorem gcd_calls (w : World) (A A' : Option Addr) (c c' : Nat) (xs ys : List Nat) (hx : Parts w A xs) (hy : Parts w A' ys) (hc : xs.length ≤ c) (hc' : ys.length ≤ c') (hT : Tab w) (hsz : xs.length + ys.length ≤ 8796093022000) :
    Calls Tryz.prog 54 #[.slice A xs.length c, .slice A' ys.length c'] w fun e w' => ∃ v bs, e = .returned v ∧ Own w' v (Nat.gcd (fval xs) (fval ys)) bs ∧ Fresh w.heap.size w' bs ∧ Below w.heap.size w w' := by
  have HT := Lib.hid hT
  have hfx := fineL_eq hx.1
  have hfy := fineL_eq hy.1
  have hlx := fineL_length xs
  have hly := fineL_length ys
  rw [hfx] at hlx
  rw [hfy] at hly
  have HFX := Lib.hid hfx
  have HFY := Lib.hid hfy
  clear hfx hfy hT
  go_enter Tryz.func54, Tryz.ntmps54
  go_wp2_with fail
  refine (fine_calls _ _ _ xs hx hc).mono ?_
  rw [HFX.out]
  rintro e w1 ⟨A1, c1, rfl, hl1, hlc1, hp1, rfl⟩
  have HP1 := Lib.hid hp1
  clear hp1 hx
  go_wp2_with fail
  refine (clone_calls _ _ _ (fval xs) HP1.out hl1).mono ?_
  rintro e w2 ⟨v2, b2, rfl, hO2, hfr2, hB2⟩
  have hy2 := hy.below hB2
  go_wp2_with fail
  refine (fine_calls _ _ _ ys hy2 hc').mono ?_
  rw [HFY.out]
  rintro e w3 ⟨A3, c3, rfl, hl3, hlc3, hp3, rfl⟩
  have HP3 := Lib.hid hp3
  clear hp3 hy hy2
  go_wp2_with fail
  refine (clone_calls _ _ _ (fval ys) HP3.out hl3).mono ?_
  rintro e w4 ⟨v4, b4, rfl, hO4, hfr4, hB4⟩
  obtain ⟨A2, c2, rfl, hc2, hp2⟩ := (hO2.below hB4).reads
  obtain ⟨A4, c4, rfl, hc4, hp4⟩ := hO4.reads
  have HP2 := Lib.hid hp2
  have HP4 := Lib.hid hp4
  have HO2 := Lib.hid (hO2.below hB4)
  have HO4 := Lib.hid hO4
  have HB := Lib.hid (hB2.trans (hB4.mono hB2.size))
  have s2 := hB2.size
  have s4 := hB4.size
  clear hp2 hp4 hO2 hO4
  generalize hga : fval xs = a at *
  generalize hgb : fval ys = b at *
  have HGA := Lib.hid hga
  have HGB := Lib.hid hgb
  clear hga hgb
  by_cases ha : a = 0
  · subst ha
    have hla : (((digs 0).length : Int) == 0) = true := by rw [digs_zero]; rfl
    go_wp2_with fail
    go_ret
    exact ⟨_, b4, rfl, by rw [HGA.out, HGB.out, Nat.gcd_zero_left]; exact HO4.out, hfr4.low s2, HB.out⟩
  · have hpa : 0 < (digs a).length := by
      rcases Nat.eq_zero_or_pos (digs a).length with h | h
      · exact absurd (digs_eq_nil.1 (List.eq_nil_of_length_eq_zero h)) ha
      · exact h
    have hla : (((digs a).length : Int) == 0) = false := beq_eq_false_iff_ne.2 (by omega)
    by_cases hb : b = 0
    · subst hb
      have hlb : (((digs 0).length : Int) == 0) = true := by rw [digs_zero]; rfl
      go_wp2_with fail
      go_ret
      exact ⟨_, b2, rfl, by rw [HGA.out, HGB.out, Nat.gcd_zero_right]; exact HO2.out, hfr2.up s4, HB.out⟩
    · have hpb : 0 < (digs b).length := by
        rcases Nat.eq_zero_or_pos (digs b).length with h | h
        · exact absurd (digs_eq_nil.1 (List.eq_nil_of_length_eq_zero h)) hb
        · exact h
      have hlb : (((digs b).length : Int) == 0) = false := beq_eq_false_iff_ne.2 (by omega)
      have HT4 := Lib.hid (HT.out.below HB.out)
      go_wp2_with fail
      refine (noughts_calls _ _ _ (digs a) HP2.out HT4.out).mono ?_
      rintro e w5 ⟨⟨n, rfl, hn1, hn2⟩, rfl⟩
      go_wp2_with fail
      refine (noughts_calls _ _ _ (digs b) HP4.out HT4.out).mono ?_
      rintro e w5 ⟨⟨m, rfl, hm1, hm2⟩, rfl⟩
      rw [val_digs] at hn2 hm2
      have htn := hn2 ha
      have htm := hm2 hb
      have HG := Lib.hid (gcd_start htn htm)
      have HN := Lib.hid htn
      have HM := Lib.hid htm
      clear hn2 hm2 htn htm
      go_wp2_with fail
      refine (back_calls _ _ _ (digs a) n HP2.out hc2 (by omega)).mono ?_
      rintro e w6 ⟨v6, b6, rfl, hO6, hfr6, hB6⟩
      go_wp2_with fail
      refine (back_calls _ _ _ (digs b) m (HP4.out.below hB6) hc4 (by omega)).mono ?_
      rintro e w7 ⟨v7, b7, rfl, hO7, hfr7, hB7⟩
      rw [val_digs] at hO6 hO7
      have HO6 := Lib.hid (hO6.below hB7)
      have HO7 := Lib.hid hO7
      have HB7 := Lib.hid (HB.out.trans ((hB6.trans (hB7.mono hB6.size)).mono HB.out.size))
      clear hO6 hO7
      go_wp2_with fail
      obtain ⟨x1, x2⟩ := HN.out.div
      obtain ⟨y1, y2⟩ := HM.out.div
      have hxl : (digs (a / 2 ^ n)).length ≤ (digs a).length := digs_length_mono (Nat.div_le_self _ _)
      have hyl : (digs (b / 2 ^ m)).length ≤ (digs b).length := digs_length_mono (Nat.div_le_self _ _)
      have hT7 := Lib.hid (HT.out.below HB7.out)
      clear x2 y2
      generalize a / 2 ^ n = x0 at *
      generalize b / 2 ^ m = y0 at *
      obtain ⟨mm, hmm⟩ : ∃ mm : Nat, mm = min n m := ⟨_, rfl⟩
      have hmi : min ((n : Nat) : Int) ((m : Nat) : Int) = ((mm : Nat) : Int) := by omega
      rw [← hmm] at HG
      have hmml : mm ≤ 32 * (digs a).length := by omega
      have HMM := Lib.hid hmm
      clear hmm
      go_loopg [0, 1] (x0 + y0) (fun k p q wr => ∃ x y b1 b2, x + y = k ∧ Own wr p x b1 ∧ Own wr q y b2 ∧ x % 2 = 1 ∧ y % 2 = 1 ∧ Hid (Nat.gcd x y = Nat.gcd x0 y0) ∧ (digs x).length ≤ xs.length + ys.length ∧ (digs y).length ≤ xs.length + ys.length ∧ Below w1.heap.size w1 wr)
      case atStart => exact ⟨x0, y0, b6, b7, rfl, HO6.out, HO7.out, x1, y1, rfl, by omega, by omega, HB7.out⟩
      case round =>
        obtain ⟨x, y, bx, b', hk, hOx, hOy, hxo, hyo, HGG, hxl1, hyl1, hB⟩ := hrel
        obtain ⟨Ax, cx, rfl, hcx, hpx⟩ := hOx.reads
        obtain ⟨Ay, cy, rfl, hcy, hpy⟩ := hOy.reads
        have HPX := Lib.hid hpx
        have HPY := Lib.hid hpy
        have HOX := Lib.hid hOx
        have HOY := Lib.hid hOy
        clear hpx hpy hOx hOy
        rcases Nat.lt_trichotomy x y with hlt | heq | hgt
        · have hcm : cmpN (fval (digs x)) (fval (digs y)) = -1 := by rw [fval_digs, fval_digs]; exact cmpN_lt hlt
          have HK := Lib.hid hk
          clear hk
          go_wp2_with fail
          refine (cmp_calls _ _ _ _ _ (digs x) (digs y) HPX.out HPY.out hcx hcy).mono ?_
          rintro e w8 ⟨rfl, hB8⟩
          go_wp2_with fail
          refine (minus_calls _ _ _ _ _ (digs y) (digs x) (HPY.out.below hB8) (HPX.out.below hB8) hcy hcx (by rw [val_digs, val_digs]; omega)).mono ?_
          rintro e w9 ⟨v9, b9, rfl, hO9, hfr9, hB9⟩
          rw [val_digs, val_digs] at hO9
          obtain ⟨A9, c9, rfl, hc9, hp9⟩ := hO9.reads
          have HP9 := Lib.hid hp9
          have HT9 := Lib.hid (HT.out.below (hB.trans ((hB8.trans (hB9.mono hB8.size)).mono hB.size)))
          clear hp9 hO9
          go_wp2_with fail
          refine (noughts_calls _ _ _ (digs (y - x)) HP9.out HT9.out).mono ?_
          rintro e w10 ⟨⟨k, rfl, hk1, hk2⟩, rfl⟩
          rw [val_digs] at hk2
          have htk := Lib.hid (hk2 (by omega))
          have hkl : (digs (y - x)).length ≤ (digs y).length := digs_length_mono (by omega)
          clear hk2
          go_wp2_with fail
          refine (back_calls _ _ _ (digs (y - x)) k HP9.out hc9 (by omega)).mono ?_
          rintro e w11 ⟨v11, b11, rfl, hO11, hfr11, hB11⟩
          rw [val_digs] at hO11
          have HO11 := Lib.hid hO11
          clear hO11
          have hd := Nat.div_le_self (y - x) (2 ^ k)
          go_wp2_with fail
          go_roundg (x + (y - x) / 2 ^ k)
          case rel =>
            obtain ⟨k1, k2⟩ := htk.out.div
            refine ⟨x, (y - x) / 2 ^ k, bx, b11, rfl, HOX.out.below (hB8.trans ((hB9.trans (hB11.mono hB9.size)).mono hB8.size)), HO11.out, hxo, k1, ?_, hxl1, ?_, hB.trans ((hB8.trans ((hB9.trans (hB11.mono hB9.size)).mono hB8.size)).mono hB.size)⟩
            · show _ = _
              rw [gcd_step hxo hlt htk.out]; exact HGG.out
            · exact Nat.le_trans (digs_length_mono hd) (by omega)
          case measure =>
            have := HK.out; omega
        · subst heq
          have hcm : cmpN (fval (digs x)) (fval (digs x)) = 0 := by rw [fval_digs]; simp [cmpN]
          have HK := Lib.hid hk
          clear hk
          go_wp2_with fail
          refine (cmp_calls _ _ _ _ _ (digs x) (digs x) HPX.out HPY.out hcx hcy).mono ?_
          rintro e w8 ⟨rfl, hB8⟩
          go_wp2_with fail
          refine (shift_calls _ _ _ (digs x) mm (HPX.out.below hB8) hcx (by omega) (by omega)).mono ?_
          rintro e w9 ⟨v9, b9, rfl, hO9, hfr9, hB9⟩
          rw [val_digs] at hO9
          have HO9 := Lib.hid hO9
          clear hO9
          go_wp2_with fail
          go_ret
          refine ⟨v9, b9, rfl, ?_, hfr9.low (by have := hB.size; have := hB8.size; omega), hB.trans ((hB8.trans (hB9.mono hB8.size)).mono hB.size)⟩
          have h1 := HGG.out
          rw [Nat.gcd_self] at h1
          have h2 := HG.out
          rw [← h1] at h2
          rw [HGA.out, HGB.out, h2]; exact HO9.out
        · have hcm : cmpN (fval (digs x)) (fval (digs y)) = 1 := by rw [fval_digs, fval_digs]; exact cmpN_gt hgt
          have HK := Lib.hid hk
          clear hk
          go_wp2_with fail
          refine (cmp_calls _ _ _ _ _ (digs x) (digs y) HPX.out HPY.out hcx hcy).mono ?_
          rintro e w8 ⟨rfl, hB8⟩
          go_wp2_with fail
          refine (minus_calls _ _ _ _ _ (digs x) (digs y) (HPX.out.below hB8) (HPY.out.below hB8) hcx hcy (by rw [val_digs, val_digs]; omega)).mono ?_
          rintro e w9 ⟨v9, b9, rfl, hO9, hfr9, hB9⟩
          rw [val_digs, val_digs] at hO9
          obtain ⟨A9, c9, rfl, hc9, hp9⟩ := hO9.reads
          have HP9 := Lib.hid hp9
          have HT9 := Lib.hid (HT.out.below (hB.trans ((hB8.trans (hB9.mono hB8.size)).mono hB.size)))
          clear hp9 hO9
          go_wp2_with fail
          refine (noughts_calls _ _ _ (digs (x - y)) HP9.out HT9.out).mono ?_
          rintro e w10 ⟨⟨k, rfl, hk1, hk2⟩, rfl⟩
          rw [val_digs] at hk2
          have htk := Lib.hid (hk2 (by omega))
          have hkl : (digs (x - y)).length ≤ (digs x).length := digs_length_mono (by omega)
          clear hk2
          go_wp2_with fail
          refine (back_calls _ _ _ (digs (x - y)) k HP9.out hc9 (by omega)).mono ?_
          rintro e w11 ⟨v11, b11, rfl, hO11, hfr11, hB11⟩
          rw [val_digs] at hO11
          have HO11 := Lib.hid hO11
          clear hO11
          have hd := Nat.div_le_self (x - y) (2 ^ k)
          go_wp2_with fail
          go_roundg (y + (x - y) / 2 ^ k)
          case rel =>
            obtain ⟨k1, k2⟩ := htk.out.div
            refine ⟨y, (x - y) / 2 ^ k, b', b11, rfl, HOY.out.below (hB8.trans ((hB9.trans (hB11.mono hB9.size)).mono hB8.size)), HO11.out, hyo, k1, ?_, hyl1, ?_, hB.trans ((hB8.trans ((hB9.trans (hB11.mono hB9.size)).mono hB8.size)).mono hB.size)⟩
            · show _ = _
              rw [gcd_step hyo hgt htk.out, Nat.gcd_comm]; exact HGG.out
            · exact Nat.le_trans (digs_length_mono hd) (by omega)
          case measure =>
            have := HK.out; omega

end Go.Proofs.YthofbikhomnjpaaGreatDoor
