import Derived.Test.YthofbikhomnjpaaGreatDoorRow
import Derived.Deep.CutBlock
import Derived.Test.YthofbikhomnjpaaGreatDoorPure4
namespace Go.Proofs.YthofbikhomnjpaaGreatDoor
open Go.RowKit
set_option linter.unusedVariables false
set_option linter.unusedSimpArgs false
attribute [local go_sem] max2_is max_is min2_is min_is

theorem own_lower {w : World} {base base' : Nat} {e : TypeId} {size n : Nat} {v : Value} {xs : List Value} (h : w.ownsRow base e size v n xs) (hb : base' ≤ base) : w.ownsRow base' e size v n xs := by
  obtain ⟨h1, h2⟩ := h
  refine ⟨h1, ?_⟩
  rcases h2 with h2 | ⟨g, cap, cur, rfl, hg, r⟩
  · exact .inl h2
  · exact .inr ⟨g, cap, cur, rfl, Nat.le_trans hb hg, r⟩
theorem own_base' {w : World} {base : Nat} {e : TypeId} {size n : Nat} {v : Value} {xs : List Value} (h : w.ownsRow base e size v n xs) (k : Nat) (hk : v.ownBlock = some k) : base ≤ k := by
  rcases h.2 with ⟨rfl, _⟩ | ⟨g, cap, cur, rfl, hb, _⟩
  · simp [Value.ownBlock] at hk
  · have : g = k := by simpa [Value.ownBlock] using hk
    omega
theorem row_snoc {w : World} {base : Nat} {v : Value} {us : List Nat} (h : w.ownsRow base 62 1 v (us.length + 1) ((u32s us).toList ++ [.int .u32 0])) : ∃ g cap, v = .slice (some ⟨g, 0, none⟩) (us.length + 1) cap ∧ Row w g (us ++ [0]) ∧ base ≤ g ∧ us.length + 1 ≤ cap ∧ cap ≤ maxLen := by
  have e : (u32s us).toList ++ [.int .u32 0] = (u32s (us ++ [0])).toList := by simp [u32s]
  have hl : us.length + 1 = (us ++ [0]).length := by simp
  rw [e, hl] at h
  have h2 := Row.of_owns h (by simp)
  rwa [← hl] at h2

set_option maxRecDepth 100000 in
set_option maxHeartbeats 4000000 in
theorem long_calls (w : World) (A A' : Option Addr) (c c' : Nat) (us vs : List Nat) (hx : Parts w A us) (hy : Parts w A' vs) (hc : us.length ≤ c) (hc' : vs.length ≤ c') (hn : 2 ≤ vs.length) (htop : 0 < el vs (vs.length - 1)) (hle : vs.length ≤ us.length + 1) (hsz : us.length ≤ 17592186044416) :
    Calls Tryz.prog 129 #[.slice A us.length c, .slice A' vs.length c'] w fun e w' => ∃ v1 v2 b1 b2, e = .returned (.tuple #[v1, v2]) ∧ Own w' v1 (val us / val vs) [b1] ∧ Own w' v2 (val us % val vs) [b2] ∧ Fresh w.heap.size w' [b1, b2] ∧ Below w.heap.size w w' := by
  obtain ⟨hsv, hlv, hcv0⟩ := hy
  obtain ⟨b, o, rfl, hcv⟩ := hcv0 (by omega)
  clear hcv0
  have HX := Lib.hid hx
  have HSV := Lib.hid hsv
  have HCV := Lib.hid hcv
  have hc1 := hcv (vs.length - 1) (by omega)
  have hc2 := hcv (vs.length - 2) (by omega)
  have hu1 := el_lt hsv (vs.length - 1)
  have hu2 := el_lt hsv (vs.length - 2)
  have HY := Lib.hid (show Parts w (some ⟨b, o, none⟩) vs from ⟨hsv, hlv, fun _ => ⟨b, o, rfl, hcv⟩⟩)
  clear hsv hcv hx
  obtain ⟨i0, hi, hz0, hz1, hz2⟩ := info_parts info_u32
  go_enter Tryz.func129, Tryz.ntmps129
  go_wp2_with fail
  go_quiet (fail)
  go_wp2_with fail
  have HB0 : Hid (Below w.heap.size w (w.drewN nq)) := below_drewN (Below.refl _ _) nq
  refine (clone_row _ _ _ us (HX.out.below HB0.out) hc).mono ?_
  rintro e w1 ⟨v, rfl, hown, hB1⟩
  have HB1 : Hid (Below w.heap.size w w1) := HB0.out.trans hB1
  have hlt1 : w.heap.size ≤ w1.heap.size := HB1.out.size
  have HO := Lib.hid hown
  clear hown hB1
  have hmk := make_nat ((us.length : Int) + 1 - (vs.length : Int)) (us.length + 1 - vs.length) (by omega) (by omega)
  have hus : us.length + 1 ≤ maxLen := by unfold maxLen; omega
  go_wp2_with (at_builtin; refine wpList_append_own_at _ rfl _ _ 32 rfl w.heap.size 62 i0 (.int .u32 0) 1 4 Tryz.underlying32 hi hz0 hz1 hz2 rfl (by decide) v us.length (u32s us).toList rfl ((own_lower HO.out (by have := HB0.out.size; omega)).alloc _) ⟨w1.heap.size, 0, none⟩ 1 1 [.int .u32 0] rfl rfl (cell_one_new _ _ _) (by simp [Value.oneCell']) hus (by omega) (by simp; omega) ?_; intro v' w2 hown' hgrow hnil hat; obtain ⟨gR, cap, rfl, hR, hgR, hcap1, hcap2⟩ := row_snoc hown'; have HR := Lib.hid hR; have HG := Lib.hid hgrow; clear hR hgrow hown' hnil hat)
  clear hmk hc1 hc2
  have HB2 : Hid (Below w.heap.size w w2) := (HB1.out.alloc hlt1 _).grown HG.out (by simp; omega) (fun k hk => by have := own_base' HO.out k hk; have := HB0.out.size; omega)
  have hlt2 : w.heap.size ≤ w2.heap.size := HB2.out.size
  have hgq : gR < w2.heap.size := HR.out.lt
  have hq0 := Blk.new w2 (List.replicate (us.length + 1 - vs.length) 0)
  have hvpos : pw (vs.length - 1) ≤ val vs := by
    have h1 := val_append' (vs.take (vs.length - 1)) (vs.drop (vs.length - 1))
    rw [List.take_append_drop, List.length_take, Nat.min_eq_left (by omega), val_drop_eq vs _ (by omega)] at h1
    have h2 := Nat.mul_le_mul_left (pw (vs.length - 1)) (show 1 ≤ el vs (vs.length - 1) + 4294967296 * val (vs.drop (vs.length - 1 + 1)) by omega)
    omega
  have HVP := Lib.hid hvpos
  clear hvpos
  go_loopw [10] (fun i wr => ∃ (z : Int) (R Q : List Nat), -1 ≤ z ∧ z ≤ (us.length : Int) - vs.length ∧ i = .int .i64 z ∧ Row wr gR R ∧ Row wr w2.heap.size Q ∧ LongRel us vs R Q (z + 1).toNat ∧ Below w.heap.size w wr) (fun i _ => (intOf i + 1).toNat)
  case atStart =>
    refine ⟨(us.length : Int) - vs.length, us ++ [0], List.replicate (us.length + 1 - vs.length) 0, by omega, by omega, ?_, HR.out.alloc _, hq0.row, ⟨by simp, by simp, HX.out.1.append (Small.cons (by omega) Small.nil), Small.replicate _, ?_, ?_⟩, HB2.out.alloc hlt2 _⟩
    · exact int_eq (by omega)
    · have h1 := val_lt' (HX.out.1.append (Small.cons (by omega) Small.nil)) (l := us ++ [0])
      have h3 : val ((us ++ [0]).drop ((us.length : Int) - vs.length + 1).toNat) < pw (vs.length - 1) := by
        rw [show ((us.length : Int) - vs.length + 1).toNat = us.length + 1 - vs.length from by omega, List.drop_append_of_le_length (by omega), val_append']
        have h4 := val_lt' (HX.out.1.drop (us.length + 1 - vs.length))
        rw [List.length_drop, show us.length - (us.length + 1 - vs.length) = vs.length - 1 from by omega] at h4
        simp only [val, Nat.mul_zero, Nat.add_zero]
        exact h4
      have := HVP.out; omega
    · rw [show ((us.length : Int) - vs.length + 1).toNat = us.length + 1 - vs.length from by omega, List.drop_of_length_le (by simp), val_append']
      simp [val]
  case round =>
    clear hq0
    obtain ⟨z, R, Q, hz1', hz2', rfl, hR, hQ, hL, hB⟩ := hrel
    have HR' := Lib.hid hR
    have HQ' := Lib.hid hQ
    have HL := Lib.hid hL
    clear hR hQ hL
    by_cases hlt : 0 ≤ z
    · obtain ⟨p, rfl⟩ := Int.eq_ofNat_of_zero_le hlt
      have hpl : p + vs.length < us.length + 1 := by omega
      have hrl : R.length = us.length + 1 := HL.out.rl
      have k1 := HR'.out.cell (p + vs.length) (by omega)
      have k2 := HR'.out.cell (p + (vs.length - 1)) (by omega)
      have k3 := HR'.out.cell (p + (vs.length - 2)) (by omega)
      have b1 := el_lt HL.out.rs (p + vs.length)
      have b2 := el_lt HL.out.rs (p + (vs.length - 1))
      have b3 := el_lt HL.out.rs (p + (vs.length - 2))
      have hsl : ∀ W : World, (Instr.slice 32 (.slice (some ⟨gR, 0, none⟩) (us.length + 1) cap) (some (.int .i64 (p : Int))) (some (.int .i64 ((p : Int) + (vs.length : Int) + 1))) none).run Tryz.prog W = .ok (.slice (some ⟨gR, p, none⟩) (vs.length + 1) (cap - p)) W := fun W => by
        have := slice_mid gR (us.length + 1) cap p (p + vs.length + 1) (by omega) (by omega) (by omega) p ((p : Int) + (vs.length : Int) + 1) rfl (by omega) W
        rwa [show p + vs.length + 1 - p = vs.length + 1 from by omega] at this
      have HRL := Lib.hid hrl
      clear hrl
      have hor := or_join (el R (p + vs.length)) (el R (p + (vs.length - 1))) b1 b2
      obtain ⟨g0, hmin, hg0, hg0l, hmax0⟩ : ∃ g0 : Nat, min ((((el R (p + vs.length) : Nat) : Int) * 4294967296 + ((el R (p + (vs.length - 1)) : Nat) : Int)) / ((el vs (vs.length - 1) : Nat) : Int)) 4294967295 = (g0 : Int) ∧ g0 * el vs (vs.length - 1) ≤ el R (p + vs.length) * 4294967296 + el R (p + (vs.length - 1)) ∧ g0 < 4294967296 ∧ (g0 = 4294967295 ∨ el R (p + vs.length) * 4294967296 + el R (p + (vs.length - 1)) < (g0 + 1) * el vs (vs.length - 1)) := guess_start _ _ (by omega) htop
      obtain ⟨m0, hm0, hm1⟩ : ∃ m0 : Nat, (g0 : Int) * ((el vs (vs.length - 1) : Nat) : Int) = (m0 : Int) ∧ m0 = g0 * el vs (vs.length - 1) := ⟨_, by rw [Int.natCast_mul], rfl⟩
      rw [← hm1] at hg0
      have hv0 : (((el vs (vs.length - 1) : Nat) : Int) == 0) = false := beq_eq_false_iff_ne.2 (by omega)
      have HM0 := Lib.hid hmax0
      have HM1 := Lib.hid hm1
      clear hmax0 hm1
      go_wp2_with fail
      go_quiet (fail)
      go_upto_block 2 with fail
      go_cut [13, 14] from 48 to 174 (fun gv ov wx => ∃ g : Nat, gv = .int .u64 g ∧ g < 4294967296 ∧ Hid (Knuth (val (R.drop p)) (val vs) (val (R.drop p) / val vs) g) ∧ wx = wr.drewN nq)
      case first =>
        go_wp2_with fail
        go_loop [13, 14] (fun gv ov => ∃ g ov' : Nat, gv = .int .u64 g ∧ ov = .int .u64 ov' ∧ g < 4294967296 ∧ Hid (g * el vs (vs.length - 1) + ov' = el R (p + vs.length) * 4294967296 + el R (p + (vs.length - 1))) ∧ ov' ≤ el R (p + vs.length) * 4294967296 + el R (p + (vs.length - 1)) ∧ Hid (g = 4294967295 ∨ (el R (p + vs.length) * 4294967296 + el R (p + (vs.length - 1))) * 4294967296 + el R (p + (vs.length - 2)) < (g + 1) * (el vs (vs.length - 1) * 4294967296 + el vs (vs.length - 2)))) (fun gv _ => (intOf gv).toNat)
        case atStart =>
          refine ⟨g0, el R (p + vs.length) * 4294967296 + el R (p + (vs.length - 1)) - m0, rfl, int_eq (by omega), hg0l, ?_, by omega, ?_⟩
          · show _ = _
            rw [← HM1.out]; omega
          · rcases HM0.out with h | h
            · exact .inl h
            · exact .inr (guess_max h b3)
        case round =>
          obtain ⟨g, ov', rfl, rfl, hgl, HE, hov, HMX⟩ := hrel
          clear hmin hg0 hg0l hm0 hor
          obtain ⟨m, hm, hm1⟩ : ∃ m : Nat, (g : Int) * ((el vs (vs.length - 2) : Nat) : Int) = (m : Int) ∧ m = g * el vs (vs.length - 2) := ⟨_, by rw [Int.natCast_mul], rfl⟩
          have hml : m ≤ 4294967295 * 4294967295 := by rw [hm1]; exact Nat.mul_le_mul (by omega) (by omega)
          have HM := Lib.hid hm1
          clear hm1
          have hend : ¬ ((el R (p + vs.length) * 4294967296 + el R (p + (vs.length - 1))) * 4294967296 + el R (p + (vs.length - 2)) < g * (el vs (vs.length - 1) * 4294967296 + el vs (vs.length - 2))) → Hid (Knuth (val (R.drop p)) (val vs) (val (R.drop p) / val vs) g) := fun h =>
            long_knuth HL.out HSV.out hpl hn htop hgl (by omega) HMX.out
          have HEND := Lib.hid hend
          clear hend
          by_cases hbig : ov' < 4294967296
          · have hor2 := or_join ov' (el R (p + (vs.length - 2))) hbig b3
            have hsh : (((ov' : Nat) : Int) / 4294967296 == 0) = true := beq_iff_eq.2 (by omega)
            have hgt := guess_test (top := el R (p + vs.length) * 4294967296 + el R (p + (vs.length - 1))) (high := el vs (vs.length - 1)) (next := el vs (vs.length - 2)) (p2 := el R (p + (vs.length - 2))) (g := g) (by have := HE.out; omega)
            have hov2 : el R (p + vs.length) * 4294967296 + el R (p + (vs.length - 1)) - g * el vs (vs.length - 1) = ov' := by have := HE.out; omega
            rw [hov2, ← HM.out] at hgt
            have HGT := Lib.hid hgt
            clear hgt hov2
            by_cases ht : ov' * 4294967296 + el R (p + (vs.length - 2)) < m
            · have htb : decide ((ov' : Int) * 4294967296 + ((el R (p + (vs.length - 2)) : Nat) : Int) < (m : Int)) = true := decide_eq_true (by omega)
              have hg1 : 1 ≤ g := by
                rcases Nat.eq_zero_or_pos g with h | h
                · have := HM.out; rw [h, Nat.zero_mul] at this; omega
                · exact h
              go_wp2_with fail
              go_round
              case rel =>
                refine ⟨g - 1, ov' + el vs (vs.length - 1), int_eq (by omega), int_eq (by omega), by omega, ?_, ?_, .inr ?_⟩
                · have h1 : (g - 1) * el vs (vs.length - 1) + el vs (vs.length - 1) = g * el vs (vs.length - 1) := by
                    obtain ⟨k, rfl⟩ : ∃ k, g = k + 1 := ⟨g - 1, by omega⟩
                    rw [Nat.add_sub_cancel, Nat.add_mul, Nat.one_mul]
                  have := HE.out
                  show _ = _
                  omega
                · have h1 : el vs (vs.length - 1) ≤ g * el vs (vs.length - 1) := Nat.le_mul_of_pos_left _ (by omega)
                  have := HE.out; omega
                · rw [show g - 1 + 1 = g by omega]; exact HGT.out.1 ht
              case measure => simp [intOf]; omega
            · have htb : decide ((ov' : Int) * 4294967296 + ((el R (p + (vs.length - 2)) : Nat) : Int) < (m : Int)) = false := decide_eq_false (by omega)
              go_wp2_with fail
              go_meet
              exact ⟨g, rfl, hgl, HEND.out (fun h => ht (HGT.out.2 h)), rfl⟩
          · have hsh : (((ov' : Nat) : Int) / 4294967296 == 0) = false := beq_eq_false_iff_ne.2 (by omega)
            have hgb := guess_big (top := el R (p + vs.length) * 4294967296 + el R (p + (vs.length - 1))) (high := el vs (vs.length - 1)) (next := el vs (vs.length - 2)) (p2 := el R (p + (vs.length - 2))) (g := g) (by have := HE.out; omega) hgl hu2 (by have := HE.out; omega)
            have HGB := Lib.hid (HEND.out hgb)
            clear hgb
            go_wp2_with fail
            go_meet
            exact ⟨g, rfl, hgl, HGB.out, rfl⟩
      case rest =>
        obtain ⟨g, rfl, hgl, HK, rfl⟩ := hcut
        go_wp2_with fail
        have hrc := HR'.out
        go_loopw [15, 106] (fun ow i wq => ∃ (k od : Nat) (R1 : List Nat), k ≤ vs.length ∧ od < 4294967296 ∧ i = .int .i64 k ∧ ow = .int .u64 od ∧ Row wq gR R1 ∧ Row wq w2.heap.size Q ∧ Hid (R1.length = R.length) ∧ Hid (Small R1) ∧ Hid (∀ j, j < p ∨ p + k ≤ j → el R1 j = el R j) ∧ Hid (val ((R1.drop p).take k) + g * val (vs.take k) = val ((R.drop p).take k) + od * pw k) ∧ Below w.heap.size w wq) (fun _ i _ => vs.length - (intOf i).toNat)
        case atStart => exact ⟨0, 0, R, by omega, by omega, rfl, rfl, HR'.out, HQ'.out, rfl, HL.out.rs, fun _ _ => rfl, by show _ = _; simp [val], below_drewN hB nq⟩
        case round =>
          clear hrc k1 k2 k3 hmin hg0 hm0 hor hB
          obtain ⟨k, od, R1, hk, hod, rfl, rfl, hR1, hQ1, HL1, HS1, HO1, HV1, hB⟩ := hrel
          have HR1 := Lib.hid hR1
          have HQ1 := Lib.hid hQ1
          clear hR1 hQ1
          by_cases hlt1 : k < vs.length
          · obtain ⟨b', o', heq, hcx⟩ := (HY.out.below hB).2.2 (by omega)
            cases heq
            have hc1 := hcx k hlt1
            clear hcx
            have hc2 := HR1.out.cell (p + k) (by rw [HL1.out, HRL.out]; omega)
            have hf2 := HR1.out.free (p + k)
            have hy := el_lt HSV.out k
            have hx := el_lt HS1.out (p + k)
            obtain ⟨m, hm, hm1⟩ : ∃ m : Nat, (g : Int) * ((el vs k : Nat) : Int) = (m : Int) ∧ m = g * el vs k := ⟨_, by rw [Int.natCast_mul], rfl⟩
            have hml : m ≤ 4294967295 * 4294967295 := by rw [hm1]; exact Nat.mul_le_mul (by omega) (by omega)
            have hw1 : owedN (el R1 (p + k)) g (el vs k) od = (m + od) / 4294967296 + if el R1 (p + k) < (m + od) % 4294967296 then 1 else 0 := by unfold owedN; rw [hm1]
            have hw2 : leftN (el R1 (p + k)) g (el vs k) od = (el R1 (p + k) + 4294967296 - (m + od) % 4294967296) % 4294967296 := by unfold leftN; rw [hm1]
            have hw3 := owedN_lt (x := el R1 (p + k)) hgl hy hod
            have hw4 := leftN_lt (el R1 (p + k)) g (el vs k) od
            have HW1 := Lib.hid hw1
            have HW2 := Lib.hid hw2
            have HT := Lib.hid (take_off (g := g) (y := el vs k) (o := od) hx HV1.out)
            clear hw1 hw2 hm1
            by_cases hlow : el R1 (p + k) < (m + od) % 4294967296
            · have hd : decide (((el R1 (p + k) : Nat) : Int) < ((m : Int) + (od : Int)) % 4294967296) = true := decide_eq_true (by omega)
              have hw1 := HW1.out
              rw [if_pos hlow] at hw1
              have HW1' := Lib.hid hw1
              have h1l : (m + od) / 4294967296 + 1 < 4294967296 := by omega
              clear HW1 hw1 hw3
              go_wp2_with fail
              go_roundw
              case rel =>
                refine ⟨k + 1, owedN (el R1 (p + k)) g (el vs k) od, R1.set (p + k) (leftN (el R1 (p + k)) g (el vs k) od), by omega, by rw [HW1'.out]; exact h1l, by go_num, int_eq (by rw [HW1'.out]; omega), HR1.out.setI _ _ (by rw [HL1.out, HRL.out]; omega) (by rw [HW2.out]; omega), HQ1.out.far (by simp; omega) _, by show _ = _; rw [List.length_set]; exact HL1.out, HS1.out.set _ hw4, ?_, ?_, hB.setCell (by simp; omega) _⟩
                · intro j hj
                  rw [el_set _ _ _ _ (by rw [HL1.out, HRL.out]; omega), if_neg (by omega)]
                  exact HO1.out j (by omega)
                · show _ = _
                  rw [mid_set _ _ _ _ (by rw [HL1.out, HRL.out]; omega), val_take_succ vs k, mid_succ, ← HO1.out (p + k) (by omega)]
                  exact HT.out
              case measure => simp [intOf]; omega
            · have hd : decide (((el R1 (p + k) : Nat) : Int) < ((m : Int) + (od : Int)) % 4294967296) = false := decide_eq_false (by omega)
              have hw1 := HW1.out
              rw [if_neg hlow, Nat.add_zero] at hw1
              have HW1' := Lib.hid hw1
              have h1l : (m + od) / 4294967296 < 4294967296 := by omega
              clear HW1 hw1 hw3
              go_wp2_with fail
              go_roundw
              case rel =>
                refine ⟨k + 1, owedN (el R1 (p + k)) g (el vs k) od, R1.set (p + k) (leftN (el R1 (p + k)) g (el vs k) od), by omega, by rw [HW1'.out]; exact h1l, by go_num, int_eq (by rw [HW1'.out]; omega), HR1.out.setI _ _ (by rw [HL1.out, HRL.out]; omega) (by rw [HW2.out]; omega), HQ1.out.far (by simp; omega) _, by show _ = _; rw [List.length_set]; exact HL1.out, HS1.out.set _ hw4, ?_, ?_, hB.setCell (by simp; omega) _⟩
                · intro j hj
                  rw [el_set _ _ _ _ (by rw [HL1.out, HRL.out]; omega), if_neg (by omega)]
                  exact HO1.out j (by omega)
                · show _ = _
                  rw [mid_set _ _ _ _ (by rw [HL1.out, HRL.out]; omega), val_take_succ vs k, mid_succ, ← HO1.out (p + k) (by omega)]
                  exact HT.out
              case measure => simp [intOf]; omega
          · have hkn : k = vs.length := by omega
            subst hkn
            have hrk : el R1 (p + vs.length) = el R (p + vs.length) := HO1.out _ (by omega)
            have hc2 := HR1.out.cell (p + vs.length) (by rw [HL1.out, HRL.out]; omega)
            have hf2 := HR1.out.free (p + vs.length)
            have hcq := HQ1.out.cell p (by rw [HL.out.ql]; omega)
            have hfq := HQ1.out.free p
            rw [hrk] at hc2
            have HRK := Lib.hid hrk
            have hv1 := HV1.out
            rw [val_take_all vs (Nat.le_refl _)] at hv1
            have HV2 := Lib.hid hv1
            clear hrk hv1 HV1
            by_cases hlow : el R (p + vs.length) < od
            · have hgp : 1 ≤ g := by
                obtain ⟨a1, a2, a3⟩ := long_owed HL.out HSV.out hpl hn HS1.out HV2.out
                have e := (knuth_wrong HK.out a1 a2 a3 hlow).1
                rw [e]; exact Nat.le_add_left _ _
              go_wp2_with fail
              clear hc2 hcq
              go_loopw [19, 148] (fun cw i wq => ∃ (k cc : Nat) (R2 : List Nat), k ≤ vs.length ∧ cc ≤ 1 ∧ i = .int .i64 k ∧ cw = .int .u32 cc ∧ Row wq gR R2 ∧ Row wq w2.heap.size Q ∧ Hid (R2.length = R.length) ∧ Hid (Small R2) ∧ Hid (∀ j, j < p ∨ p + vs.length ≤ j → el R2 j = el R j) ∧ Hid (∀ j, p + k ≤ j → el R2 j = el R1 j) ∧ Hid (val ((R2.drop p).take k) + cc * pw k = val ((R1.drop p).take k) + val (vs.take k)) ∧ Below w.heap.size w wq) (fun _ i _ => vs.length - (intOf i).toNat)
              case atStart => exact ⟨0, 0, R1, by omega, by omega, rfl, rfl, HR1.out, HQ1.out, HL1, HS1, HO1, fun _ _ => rfl, by show _ = _; simp [val], hB⟩
              case round =>
                clear hf2 hfq HR1 HQ1 hB
                obtain ⟨k, cc, R2, hk2, hcc, rfl, rfl, hR2, hQ2, HL2, HS2, HO2, HO3, HV3, hB⟩ := hrel
                have HR2 := Lib.hid hR2
                have HQ2 := Lib.hid hQ2
                clear hR2 hQ2
                by_cases hlt2 : k < vs.length
                · obtain ⟨b', o', heq, hcx⟩ := (HY.out.below hB).2.2 (by omega)
                  cases heq
                  have hc1 := hcx k hlt2
                  clear hcx
                  have hc2 := HR2.out.cell (p + k) (by rw [HL2.out, HRL.out]; omega)
                  have hf2 := HR2.out.free (p + k)
                  have hy := el_lt HSV.out k
                  have hx := el_lt HS2.out (p + k)
                  go_wp2_with fail
                  refine (add32_calls _ _ _ _ hx hy hcc).mono ?_
                  rintro e w5 ⟨rfl, rfl⟩
                  go_wp2_with fail
                  go_roundw
                  case rel =>
                    refine ⟨k + 1, (el R2 (p + k) + el vs k + cc) / 4294967296, R2.set (p + k) ((el R2 (p + k) + el vs k + cc) % 4294967296), by omega, by omega, by go_num, rfl, HR2.out.setI _ _ (by rw [HL2.out, HRL.out]; omega) rfl, HQ2.out.far (by simp; omega) _, by show _ = _; rw [List.length_set]; exact HL2.out, HS2.out.set _ (by omega), ?_, ?_, ?_, hB.setCell (by simp; omega) _⟩
                    · intro j hj
                      rw [el_set _ _ _ _ (by rw [HL2.out, HRL.out]; omega), if_neg (by omega)]
                      exact HO2.out j hj
                    · intro j hj
                      rw [el_set _ _ _ _ (by rw [HL2.out, HRL.out]; omega), if_neg (by omega)]
                      exact HO3.out j (by omega)
                    · show _ = _
                      rw [mid_set _ _ _ _ (by rw [HL2.out, HRL.out]; omega), val_take_succ vs k, mid_succ, ← HO3.out (p + k) (by omega)]
                      exact add_round HV3.out
                  case measure => simp [intOf]; omega
                · have hkn : k = vs.length := by omega
                  subst hkn
                  have hc2 := HR2.out.cell (p + vs.length) (by rw [HL2.out, HRL.out]; omega)
                  have hf2 := HR2.out.free (p + vs.length)
                  have hcq := HQ2.out.cell p (by rw [HL.out.ql]; omega)
                  have hfq := HQ2.out.free p
                  have hv3 := HV3.out
                  rw [val_take_all vs (Nat.le_refl _)] at hv3
                  have HV4 := Lib.hid hv3
                  clear hv3 HV3
                  have HC := Lib.hid (long_close2 HL.out HSV.out hpl hn HK.out HS1.out HL2.out HS2.out HO2.out hgl HV2.out hlow hcc HV4.out)
                  go_wp2_with fail
                  go_roundw
                  case rel =>
                    refine ⟨(p : Int) - 1, _, _, by omega, by omega, rfl, (HR2.out.setI (p + vs.length) 0 (by rw [HL2.out, HRL.out]; omega) (by omega)).far (by simp; omega) _, (HQ2.out.far (by simp; omega) _).setI p (g - 1) (by rw [HL.out.ql]; omega) (by omega), ?_, (hB.setCell (by simp; omega) _).setCell (by simp; omega) _⟩
                    rw [show ((p : Int) - 1 + 1).toNat = p by omega]
                    exact HC.out
                  case measure => simp [intOf]
            · have HC := Lib.hid (long_close HL.out HSV.out hpl hn HK.out HL1.out HS1.out HO1.out hgl HV2.out hlow)
              go_wp2_with fail
              go_roundw
              case rel =>
                refine ⟨(p : Int) - 1, _, _, by omega, by omega, rfl, (HR1.out.setI (p + vs.length) 0 (by rw [HL1.out, HRL.out]; omega) (by omega)).far (by simp; omega) _, (HQ1.out.far (by simp; omega) _).setI p g (by rw [HL.out.ql]; omega) (by omega), ?_, (hB.setCell (by simp; omega) _).setCell (by simp; omega) _⟩
                rw [show ((p : Int) - 1 + 1).toNat = p by omega]
                exact HC.out
              case measure => simp [intOf]
    · have hz : z = -1 := by omega
      subst hz
      have hl : Hid (LongRel us vs R Q 0) := HL.out
      have hvv : Hid (val us = val vs * val Q + val R ∧ val R < val vs) := by
        have h1 := hl.out.eq
        have h2 := hl.out.less
        rw [pw_zero, Nat.mul_one] at h1
        exact ⟨h1, h2⟩
      have hdm := Lib.hid (div_mod_of hvv.out.1 hvv.out.2)
      have hO1 := Lib.hid (Own.of_row HQ'.out hl.out.qs (by rw [hl.out.ql]; omega))
      have hO2 := Lib.hid (Own.of_row HR'.out hl.out.rs (by rw [hl.out.rl]; omega))
      have hP1 := Lib.hid (HQ'.out.parts hl.out.qs (by rw [hl.out.ql]; omega))
      have hP2 := Lib.hid (HR'.out.parts hl.out.rs (by rw [hl.out.rl]; omega))
      have HRl := Lib.hid hl.out.rl
      have HQl := Lib.hid hl.out.ql
      rw [show Value.slice (some { block := w2.heap.size, off := 0 }) (us.length + 1 - vs.length) (us.length + 1 - vs.length) = Value.slice (some { block := w2.heap.size, off := 0 }) Q.length (us.length + 1 - vs.length) from by rw [HQl.out], show Value.slice (some { block := gR, off := 0 }) (us.length + 1) cap = Value.slice (some { block := gR, off := 0 }) R.length cap from by rw [HRl.out]]
      have hc5 : Q.length ≤ us.length + 1 - vs.length := by rw [HQl.out]; omega
      have hc6 : R.length ≤ cap := by rw [HRl.out]; omega
      go_wp2_with fail
      refine (cut_calls _ _ _ Q hP1.out hc5).mono ?_
      rintro e w5 ⟨rfl, rfl⟩
      go_wp2_with fail
      refine (cut_calls _ _ _ R hP2.out hc6).mono ?_
      rintro e w5 ⟨rfl, rfl⟩
      go_wp2_with fail
      go_ret2
      refine ⟨_, _, w2.heap.size, gR, rfl, ?_, ?_, ⟨?_, ?_⟩, hB⟩
      · rw [hdm.out.1]; exact hO1.out
      · rw [hdm.out.2]; exact hO2.out
      · simp; omega
      · intro b hb
        have h1 := HQ'.out.lt
        have h2 := HR'.out.lt
        simp at hb
        rcases hb with rfl | rfl <;> omega

end Go.Proofs.YthofbikhomnjpaaGreatDoor
