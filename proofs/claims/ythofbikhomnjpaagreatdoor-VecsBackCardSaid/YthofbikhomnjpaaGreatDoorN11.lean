import Derived.Test.YthofbikhomnjpaaGreatDoorLong
import Derived.Test.YthofbikhomnjpaaGreatDoorN10
/-! How often a number goes into another one, and what is left. -/
namespace Go.Proofs.YthofbikhomnjpaaGreatDoor
open Go.RowKit
set_option linter.unusedVariables false
set_option linter.unusedSimpArgs false

theorem Fresh.join {B : Nat} {w w' : World} {bs cs : List Nat} (h : Fresh B w bs) (h' : Fresh w.heap.size w' cs) (hs : w.heap.size ≤ w'.heap.size) (hB : B ≤ w.heap.size) : Fresh B w' (bs ++ cs) := by
  refine ⟨List.nodup_append.2 ⟨h.1, h'.1, fun b hb c hc e => ?_⟩, fun b hb => ?_⟩
  · have := (h.2 b hb).2; have := (h'.2 c hc).1; omega
  · rcases List.mem_append.1 hb with hb | hb
    · have := h.2 b hb; omega
    · have := h'.2 b hb; omega
theorem Fresh.low {B B' : Nat} {w : World} {bs : List Nat} (h : Fresh B w bs) (hB : B' ≤ B) : Fresh B' w bs := ⟨h.1, fun b hb => ⟨Nat.le_trans hB (h.2 b hb).1, (h.2 b hb).2⟩⟩
theorem Fresh.up {B : Nat} {w w' : World} {bs : List Nat} (h : Fresh B w bs) (hs : w.heap.size ≤ w'.heap.size) : Fresh B w' bs := ⟨h.1, fun b hb => ⟨(h.2 b hb).1, Nat.lt_of_lt_of_le (h.2 b hb).2 hs⟩⟩
theorem Below.low' {B B' : Nat} {a w : World} (h : Below B a w) (hB : B' ≤ B) : Below B' a w := h.mono hB

theorem okL_val {xs : List Nat} (hs : Small xs) (h : okL xs = true) : digs (val xs) = xs := digs_val hs h
theorem val_pos_of {xs : List Nat} (hs : Small xs) (h : okL xs = true) (h0 : 0 < xs.length) : 0 < val xs := by
  rcases Nat.eq_zero_or_pos (val xs) with h1 | h1
  · have := digs_val hs h
    rw [h1, digs_zero] at this
    rw [← this] at h0; simp at h0
  · exact h1
theorem el_top_pos {xs : List Nat} (hs : Small xs) (h : okL xs = true) (h0 : 0 < xs.length) : 0 < el xs (xs.length - 1) := by
  have := okL_last xs h0
  rw [h] at this
  have := of_decide_eq_true this.symm
  omega
theorem val_single {xs : List Nat} (h : xs.length = 1) : val xs = el xs 0 := by
  match xs, h with
  | [x], _ => simp [val, el]
theorem cmpN_lt {a b : Nat} (h : a < b) : cmpN a b = -1 := by unfold cmpN; rw [if_pos h]
theorem cmpN_ge {a b : Nat} (h : b ≤ a) : 0 ≤ cmpN a b := by unfold cmpN; rw [if_neg (by omega)]; split <;> omega

set_option maxRecDepth 100000 in
theorem div_less (w : World) (A A' : Option Addr) (c c' : Nat) (xs ys : List Nat) (hx : Parts w A xs) (hy : Parts w A' ys) (hc : xs.length ≤ c) (hc' : ys.length ≤ c') (hkx : okL xs = true) (hky : okL ys = true) (h0 : 0 < ys.length) (hlt : val xs < val ys) :
    Calls Tryz.prog 115 #[.slice A xs.length c, .slice A' ys.length c'] w fun e w' => ∃ v1 v2 bs, e = .returned (.tuple #[v1, v2, .int .i64 0]) ∧ Own w' v1 (val xs / val ys) [] ∧ Own w' v2 (val xs % val ys) bs ∧ Fresh w.heap.size w' bs ∧ Below w.heap.size w w' := by
  have HX := Lib.hid hx
  have HY := Lib.hid hy
  have hb1 : ((ys.length : Int) == 0) = false := beq_eq_false_iff_ne.2 (by omega)
  have hcm : cmpN (fval xs) (fval ys) = -1 := by rw [fval_ok hkx, fval_ok hky]; exact cmpN_lt hlt
  have HXV := Lib.hid (okL_val hx.1 hkx)
  have HD := Lib.hid (Nat.div_eq_of_lt hlt)
  have HM := Lib.hid (Nat.mod_eq_of_lt hlt)
  clear hx hy hlt
  go_enter Tryz.func115, Tryz.ntmps115
  go_wp2_with fail
  refine (check_calls _ _ _ xs HX.out).mono ?_
  rintro e w1 ⟨rfl, rfl⟩
  go_wp2_with fail
  refine (check_calls _ _ _ ys HY.out).mono ?_
  rintro e w1 ⟨rfl, rfl⟩
  go_wp2_with fail
  refine (cmp_calls _ _ _ _ _ xs ys HX.out HY.out hc hc').mono ?_
  rintro e w1 ⟨rfl, hB1⟩
  go_wp2_with fail
  have hcl := (clone_calls w1 A c (val xs) (by rw [HXV.out]; exact HX.out.below hB1) (by rw [HXV.out]; exact hc))
  rw [HXV.out] at hcl
  refine hcl.mono ?_
  clear hcl
  rintro e w2 ⟨v, bs, rfl, hown, hfr, hB2⟩
  have HO := Lib.hid hown
  clear hown
  go_wp2_with fail
  go_ret3
  refine ⟨_, v, bs, rfl, by rw [HD.out]; exact own_none _, by rw [HM.out]; exact HO.out, hfr.low hB1.size, hB1.trans (hB2.mono hB1.size)⟩

set_option maxRecDepth 100000 in
set_option maxHeartbeats 2000000 in
theorem div_one (w : World) (A A' : Option Addr) (c c' : Nat) (xs ys : List Nat) (hx : Parts w A xs) (hy : Parts w A' ys) (hc : xs.length ≤ c) (hc' : ys.length ≤ c') (hkx : okL xs = true) (hky : okL ys = true) (h0 : ys.length = 1) (hge : val ys ≤ val xs) :
    Calls Tryz.prog 115 #[.slice A xs.length c, .slice A' ys.length c'] w fun e w' => ∃ v1 v2 b1 b2, e = .returned (.tuple #[v1, v2, .int .i64 0]) ∧ Own w' v1 (val xs / val ys) b1 ∧ Own w' v2 (val xs % val ys) b2 ∧ Fresh w.heap.size w' (b1 ++ b2) ∧ Below w.heap.size w w' := by
  have HX := Lib.hid hx
  have HY := Lib.hid hy
  have hb1 : ((ys.length : Int) == 0) = false := beq_eq_false_iff_ne.2 (by omega)
  have hb2 : ((ys.length : Int) == 1) = true := beq_iff_eq.2 (by omega)
  have hcm : decide (cmpN (fval xs) (fval ys) < 0) = false := decide_eq_false (by rw [fval_ok hkx, fval_ok hky]; have := cmpN_ge hge; omega)
  have hvs : val ys = el ys 0 := val_single h0
  have hpos : 0 < el ys 0 := by have := el_top_pos hy.1 hky (by omega); rwa [h0] at this
  have hel := el_lt hy.1 0
  have HVS := Lib.hid hvs
  have h1a : 1 ≤ ys.length := by omega
  have h1b : ys.length ≤ 1 := by omega
  clear hx hy hvs h0
  go_enter Tryz.func115, Tryz.ntmps115
  go_wp2_with fail
  refine (check_calls _ _ _ xs HX.out).mono ?_
  rintro e w1 ⟨rfl, rfl⟩
  go_wp2_with fail
  refine (check_calls _ _ _ ys HY.out).mono ?_
  rintro e w1 ⟨rfl, rfl⟩
  go_wp2_with fail
  refine (cmp_calls _ _ _ _ _ xs ys HX.out HY.out hc hc').mono ?_
  rintro e w1 ⟨rfl, hB1⟩
  obtain ⟨b, o, rfl, hcy⟩ := (HY.out.below hB1).2.2 (by omega)
  have hcy1 := hcy 0 (by omega)
  rw [Nat.add_zero] at hcy1
  clear hcy
  go_wp2_with fail
  refine (short_calls _ _ _ xs (el ys 0) (HX.out.below hB1) hc hpos hel).mono ?_
  rintro e w2 ⟨v, bs, rfl, hown, hfr, hB2⟩
  have HO := Lib.hid hown
  have hml : val xs % el ys 0 < 4294967296 := Nat.lt_trans (Nat.mod_lt _ hpos) hel
  clear hown
  generalize hr : val xs % el ys 0 = r at *
  go_wp2_with fail
  refine (of_calls _ r (by omega)).mono ?_
  rintro e w3 ⟨v3, b3, rfl, hown3, hfr3, hB3⟩
  have HO3 := Lib.hid hown3
  have HR := Lib.hid hr
  clear hown3 hr
  go_wp2_with fail
  go_ret3
  refine ⟨v, v3, bs, b3, rfl, by rw [HVS.out]; exact HO.out.below hB3, by rw [HVS.out, HR.out]; exact HO3.out, (hfr.join hfr3 hB3.size hB2.size).low hB1.size, hB1.trans ((hB2.trans (hB3.mono hB2.size)).mono hB1.size)⟩

set_option maxRecDepth 100000 in
set_option maxHeartbeats 2000000 in
theorem div_more (w : World) (A A' : Option Addr) (c c' : Nat) (xs ys : List Nat) (hx : Parts w A xs) (hy : Parts w A' ys) (hc : xs.length ≤ c) (hc' : ys.length ≤ c') (hkx : okL xs = true) (hky : okL ys = true) (h0 : 1 < ys.length) (hge : val ys ≤ val xs) (hsz : xs.length ≤ 17592186044000) :
    Calls Tryz.prog 115 #[.slice A xs.length c, .slice A' ys.length c'] w fun e w' => ∃ v1 v2 b1 b2, e = .returned (.tuple #[v1, v2, .int .i64 0]) ∧ Own w' v1 (val xs / val ys) b1 ∧ Own w' v2 (val xs % val ys) b2 ∧ Fresh w.heap.size w' (b1 ++ b2) ∧ Below w.heap.size w w' := by
  have hly := hy.2.1
  have HX := Lib.hid hx
  have HY := Lib.hid hy
  have hb1 : ((ys.length : Int) == 0) = false := beq_eq_false_iff_ne.2 (by omega)
  have hb2 : ((ys.length : Int) == 1) = false := beq_eq_false_iff_ne.2 (by omega)
  have hcm : decide (cmpN (fval xs) (fval ys) < 0) = false := decide_eq_false (by rw [fval_ok hkx, fval_ok hky]; have := cmpN_ge hge; omega)
  have hpos : 0 < el ys (ys.length - 1) := el_top_pos hy.1 hky (by omega)
  have hel := el_lt hy.1 (ys.length - 1)
  have hlz := lz_lt _ hel (by omega)
  have HKX := Lib.hid (okL_val hx.1 hkx)
  have HKY := Lib.hid (okL_val hy.1 hky)
  have HP : Hid (0 < val ys) := val_pos_of hy.1 hky (by omega)
  have hyx : ys.length ≤ xs.length := by
    have := digs_length_mono hge
    rwa [HKX.out, HKY.out] at this
  clear hx hy
  go_enter Tryz.func115, Tryz.ntmps115
  go_wp2_with fail
  refine (check_calls _ _ _ xs HX.out).mono ?_
  rintro e w1 ⟨rfl, rfl⟩
  go_wp2_with fail
  refine (check_calls _ _ _ ys HY.out).mono ?_
  rintro e w1 ⟨rfl, rfl⟩
  go_wp2_with fail
  refine (cmp_calls _ _ _ _ _ xs ys HX.out HY.out hc hc').mono ?_
  rintro e w1 ⟨rfl, hB1⟩
  obtain ⟨b, o, rfl, hcy⟩ := (HY.out.below hB1).2.2 (by omega)
  have hcy1 := hcy (ys.length - 1) (by omega)
  clear hcy
  go_wp2_with fail
  refine (lz32_calls _ _ hel).mono ?_
  rintro e w2 ⟨rfl, rfl⟩
  generalize hk : lz (el ys (ys.length - 1)) = k at *
  go_wp2_with fail
  refine (shift_calls _ _ _ xs k (HX.out.below hB1) hc (by omega) (by omega)).mono ?_
  rintro e w3 ⟨v3, b3, rfl, hown3, hfr3, hB3⟩
  have HO3 := Lib.hid hown3
  clear hown3
  go_wp2_with fail
  refine (shift_calls _ _ _ ys k (HY.out.below (hB1.trans (hB3.mono hB1.size))) hc' (by omega) (by omega)).mono ?_
  rintro e w4 ⟨v4, b4, rfl, hown4, hfr4, hB4⟩
  obtain ⟨A3, c3, rfl, hc3, hp3⟩ := (HO3.out.below hB4).reads
  obtain ⟨A4, c4, rfl, hc4, hp4⟩ := hown4.reads
  have HP3 := Lib.hid hp3
  have HP4 := Lib.hid hp4
  clear hp3 hp4 hown4 hcy1
  have hl4 : 2 ≤ (digs (val ys * 2 ^ k)).length := by
    have := digs_length_mono (Nat.le_mul_of_pos_right (val ys) (Nat.pow_pos (n := k) (show 0 < 2 by omega)))
    rw [HKY.out] at this; omega
  have hl43 : (digs (val ys * 2 ^ k)).length ≤ (digs (val xs * 2 ^ k)).length := digs_length_mono (Nat.mul_le_mul_right _ hge)
  have hl3 : (digs (val xs * 2 ^ k)).length ≤ xs.length + 1 := by
    have h1 : val xs * 2 ^ k ≤ val ([0] ++ xs) := by
      rw [val_append']
      have h2 : 2 ^ k ≤ 2 ^ 32 := Nat.pow_le_pow_right (by omega) (by omega)
      have h3 := Nat.mul_le_mul_left (val xs) h2
      have h4 : pw [0].length = 4294967296 := by rw [List.length_singleton, pw_succ, pw_zero]
      rw [h4, Nat.mul_comm 4294967296]
      simp only [val]; omega
    have h5 := digs_length_mono h1
    have h6 := digs_length_le (Small.append (Small.cons (show 0 < 4294967296 by omega) Small.nil) HX.out.1)
    simp only [List.length_append, List.length_singleton] at h6
    omega
  have htop := el_top_pos (small_digs (val ys * 2 ^ k)) (okL_digs _) (by omega)
  go_wp2_with fail
  refine (long_calls _ _ _ _ _ (digs (val xs * 2 ^ k)) (digs (val ys * 2 ^ k)) HP3.out HP4.out hc3 hc4 hl4 htop (by omega) (by omega)).mono ?_
  rintro e w5 ⟨v1, v2, g1, g2, rfl, hO1, hO2, hfr5, hB5⟩
  rw [val_digs, val_digs, Nat.mul_div_mul_right _ _ (Nat.pow_pos (by omega))] at hO1
  rw [val_digs, val_digs, Nat.mul_mod_mul_right] at hO2
  obtain ⟨A5, c5, rfl, hc5, hp5⟩ := hO2.reads
  have HO1 := Lib.hid hO1
  have HP5 := Lib.hid hp5
  clear hO1 hO2 hp5
  go_wp2_with fail
  refine (back_calls _ _ _ (digs (val xs % val ys * 2 ^ k)) k HP5.out hc5 (by omega)).mono ?_
  rintro e w6 ⟨v6, b6, rfl, hO6, hfr6, hB6⟩
  rw [val_digs, Nat.mul_div_cancel _ (Nat.pow_pos (by omega))] at hO6
  have HO6 := Lib.hid hO6
  clear hO6
  go_wp2_with fail
  go_ret3
  have s3 := hB3.size
  have s4 := hB4.size
  have s5 := hB5.size
  have s1 := hB1.size
  have hB15 := hB1.trans ((hB3.trans ((hB4.trans (hB5.mono s4)).mono s3)).mono s1)
  refine ⟨v1, v6, [g1], b6, rfl, HO1.out.below hB6, HO6.out, ?_, hB15.trans (hB6.mono (by omega))⟩
  have h1 : Fresh w1.heap.size w5 [g1] := fresh_one (by have := hfr5.2 g1 (by simp); omega) (hfr5.2 g1 (by simp)).2
  exact h1.join hfr6 hB6.size (by omega)

theorem div_calls (w : World) (A A' : Option Addr) (c c' : Nat) (xs ys : List Nat) (hx : Parts w A xs) (hy : Parts w A' ys) (hc : xs.length ≤ c) (hc' : ys.length ≤ c') (hkx : okL xs = true) (hky : okL ys = true) (h0 : 0 < ys.length) (hsz : xs.length ≤ 17592186044000) :
    Calls Tryz.prog 115 #[.slice A xs.length c, .slice A' ys.length c'] w fun e w' => ∃ v1 v2 b1 b2, e = .returned (.tuple #[v1, v2, .int .i64 0]) ∧ Own w' v1 (val xs / val ys) b1 ∧ Own w' v2 (val xs % val ys) b2 ∧ Fresh w.heap.size w' (b1 ++ b2) ∧ Below w.heap.size w w' := by
  rcases Nat.lt_or_ge (val xs) (val ys) with h | h
  · exact (div_less w A A' c c' xs ys hx hy hc hc' hkx hky h0 h).mono fun e w' ⟨v1, v2, bs, r1, r2, r3, r4, r5⟩ => ⟨v1, v2, [], bs, r1, r2, r3, r4, r5⟩
  · rcases Nat.eq_or_lt_of_le (show 1 ≤ ys.length from h0) with h1 | h1
    · exact div_one w A A' c c' xs ys hx hy hc hc' hkx hky h1.symm h
    · exact div_more w A A' c c' xs ys hx hy hc hc' hkx hky h1 h hsz

end Go.Proofs.YthofbikhomnjpaaGreatDoor
