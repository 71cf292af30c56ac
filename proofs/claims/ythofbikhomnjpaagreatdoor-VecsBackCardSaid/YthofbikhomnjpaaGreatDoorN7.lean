import Derived.Test.YthofbikhomnjpaaGreatDoorN6
import Derived.WalkSpells
import Derived.Maps.AppendAt
namespace Go.Proofs.YthofbikhomnjpaaGreatDoor
open Go.RowKit
set_option linter.unusedVariables false
set_option linter.unusedSimpArgs false

set_option maxRecDepth 100000 in
theorem short_calls (w : World) (A : Option Addr) (c : Nat) (xs : List Nat) (d : Nat) (hx : Parts w A xs) (hc : xs.length ≤ c) (hd0 : 0 < d) (hd : d < 4294967296) :
    Calls Tryz.prog 106 #[.slice A xs.length c, .int .u32 (d : Int)] w fun e w' => ∃ v bs, e = .returned (.tuple #[v, .int .u32 ((val xs % d : Nat) : Int)]) ∧ Own w' v (val xs / d) bs ∧ Fresh w.heap.size w' bs ∧ Below w.heap.size w w' := by
  have hlx := hx.2.1
  have hmk := make_nat _ xs.length rfl (by omega)
  have HS1 := Lib.hid hx.1
  have HX := Lib.hid hx
  clear hx
  go_enter Tryz.func106, Tryz.ntmps106
  go_wp2_with fail
  clear hmk
  have hb0 := Blk.new w (List.replicate xs.length 0)
  go_loopw [5, 6] (fun rr i wr => ∃ (z : Int) (r : Nat) (out : List Nat), -1 ≤ z ∧ z < xs.length ∧ i = .int .i64 z ∧ rr = .int .u32 r ∧ r < d ∧ Blk wr w.heap.size out ∧ out.length = xs.length ∧ Hid (Small out) ∧ Hid (val (xs.drop (z + 1).toNat) = d * val (out.drop (z + 1).toNat) + r) ∧ Below w.heap.size w wr) (fun _ i _ => (intOf i + 1).toNat)
  case atStart => exact ⟨(xs.length : Int) - 1, 0, List.replicate xs.length 0, by omega, by omega, rfl, rfl, hd0, hb0, by simp, Small.replicate _, by show _ = _; rw [List.drop_of_length_le (by omega), List.drop_of_length_le (by simp)]; simp [val], (Below.refl _ _).alloc (Nat.le_refl _) _⟩
  case round =>
    obtain ⟨z, r, out, hz1, hz2, rfl, rfl, hr, hblk, hlen, HS, HV, hB⟩ := hrel
    clear hb0
    have HB := Lib.hid hblk
    have HL := Lib.hid hlen
    clear hblk hlen
    by_cases hlt : 0 ≤ z
    · obtain ⟨p, rfl⟩ := Int.eq_ofNat_of_zero_le hlt
      have hpl : p < xs.length := by omega
      have hP1 := HX.out.below hB
      obtain ⟨b, o, rfl, hcx⟩ := hP1.2.2 (by omega)
      have hcx1 := hcx p hpl
      have hu := el_lt HS1.out p
      have hcell := HB.out.cell p (by rw [HL.out]; exact hpl)
      have hfree := HB.out.free p
      clear hcx hP1
      go_wp2_with fail
      refine (div32_calls _ _ _ _ hr hu hd).mono ?_
      rintro e w1 ⟨rfl, nq, rfl⟩
      go_wp2_with fail
      go_roundw
      case rel =>
        have hq : (r * 4294967296 + el xs p) / d < 4294967296 := by
          rw [Nat.div_lt_iff_lt_mul hd0]
          have := Nat.mul_le_mul_right 4294967296 (show r + 1 ≤ d from hr)
          omega
        have hm : (r * 4294967296 + el xs p) % d < d := Nat.mod_lt _ hd0
        have HV' : val (xs.drop (p + 1)) = d * val (out.drop (p + 1)) + r := by have := HV.out; rw [show ((p : Int) + 1).toNat = p + 1 from by omega] at this; exact this
        refine ⟨(p : Int) - 1, (r * 4294967296 + el xs p) % d, out.set p ((r * 4294967296 + el xs p) / d), by omega, by omega, rfl, rfl, hm, (HB.out.below (below_drewN (Below.refl _ _) nq)).set p _, by rw [List.length_set]; exact HL.out, HS.out.set _ hq, ?_, (below_drewN hB nq).setCell (by simp) _⟩
        show _ = _
        rw [show ((p : Int) - 1 + 1).toNat = p from by omega, val_drop_eq _ _ hpl, val_drop_set _ _ _ (by rw [HL.out]; exact hpl)]
        exact short_round HV'
      case measure => (simp [intOf]; try omega)
    · have hz : z = -1 := by omega
      subst hz
      have hp := HB.out.parts HS.out (by rw [HL.out]; omega)
      have hV : val xs = d * val out + r := HV.out
      have hV2 := div_mod_of hV hr
      have HO := Lib.hid (Own.of_blk HB.out HS.out (by rw [HL.out]; omega))
      have HV2 := Lib.hid hV2
      have HP := Lib.hid hp
      clear hV hp hV2
      rw [show Value.slice (some { block := w.heap.size, off := 0 }) xs.length xs.length = Value.slice (some { block := w.heap.size, off := 0 }) out.length xs.length from by rw [HL.out]]
      go_wp2_with (go_at_call 100; refine (cut_calls _ _ _ out HP.out (by rw [HL.out]; omega)).mono ?_; rintro e w1 ⟨rfl, rfl⟩)
      go_ret2
      exact ⟨_, [w.heap.size], ret_eq (tup2 rfl (int_eq (by rw [HV2.out.2]))), by have := HO.out; rw [HV2.out.1]; exact this, fresh_one (Nat.le_refl _) HB.out.lt, hB⟩

theorem info_u32 : (Tryz.prog.info? 62).map (fun i => (i.zero, i.size, i.bytes)) = some (some (.int .u32 0), 1, 4) := by kernel_rfl

theorem Parts.news {w : World} {ad : Addr} {xs : List Nat} (h : Parts w (some ad) xs) : ∀ j u, (u32s xs).toList[j]? = some u → w.cell? (ad.add j) = some u := by
  intro j u hu
  rw [Array.getElem?_toList, u32s_get] at hu
  by_cases hj : j < xs.length
  · obtain ⟨b, o, e, hc⟩ := h.2.2 (by omega)
    injection e with e
    subst e
    have h2 := hc j hj
    rw [List.getElem?_eq_getElem hj] at hu
    have h3 : (⟨b, o, none⟩ : Addr).add j = ⟨b, o + j, none⟩ := by unfold Addr.add; split <;> simp_all
    rw [h3, h2, el, List.getElem?_eq_getElem hj]
    exact hu
  · rw [List.getElem?_eq_none (by omega)] at hu; cases hu
theorem u32s_one (xs : List Nat) : ∀ u ∈ (u32s xs).toList, u.oneCell' = true := by
  intro u hu
  unfold u32s at hu
  simp only [List.mem_map, List.toList_toArray] at hu
  obtain ⟨x, _, rfl⟩ := hu
  rfl

set_option maxRecDepth 100000 in
theorem clone_row (w : World) (A : Option Addr) (c : Nat) (xs : List Nat) (hx : Parts w A xs) (hc : xs.length ≤ c) :
    Calls Tryz.prog 88 #[.slice A xs.length c] w fun e w' => ∃ v, e = .returned v ∧ w'.ownsRow w.heap.size 62 1 v xs.length (u32s xs).toList ∧ Below w.heap.size w w' := by
  have hl := hx.2.1
  cases A with
  | none =>
    have h0 : xs = [] := by
      rcases Nat.eq_zero_or_pos xs.length with h | h
      · exact List.eq_nil_of_length_eq_zero h
      · obtain ⟨b, o, e, _⟩ := hx.2.2 h; cases e
    subst h0
    clear hx
    have heq : ∀ W, (binOp .eql 32 (.slice none 0 c) (.slice none 0 0)).run Tryz.prog W = .ok (.bool true) W := fun W => Lib.run_eql_slice_nil (P := Tryz.prog) W 32 62 none 0 c 0 0 Tryz.underlying32
    go_enter Tryz.func88, Tryz.ntmps88
    go_wp2_with fail
    go_ret
    exact ⟨_, rfl, ⟨by simp [u32s], .inl ⟨rfl, by simp⟩⟩, Below.refl _ _⟩
  | some ad =>
    have heq : ∀ W, (binOp .eql 32 (.slice (some ad) xs.length c) (.slice none 0 0)).run Tryz.prog W = .ok (.bool false) W := fun W => Lib.run_eql_slice_nil (P := Tryz.prog) W 32 62 (some ad) xs.length c 0 0 Tryz.underlying32
    have HX := Lib.hid hx
    clear hx
    obtain ⟨i0, hi, hz0, hz1, hz2⟩ := info_parts info_u32
    have hown : (w.alloc (.cells #[] 62)).ownsRow w.heap.size 62 1 (.slice (some ⟨w.heap.size, 0, none⟩) 0 0) 0 [] :=
      ⟨rfl, .inr ⟨w.heap.size, 0, #[], rfl, Nat.le_refl _, heap_alloc_new w _, Nat.le_refl _, Nat.zero_le _, rfl, rfl⟩⟩
    have hB : Below w.heap.size w (w.alloc (.cells #[] 62)) := (Below.refl _ _).alloc (Nat.le_refl _) _
    have HN := Lib.hid (HX.out.below hB).news
    have HO := Lib.hid hown
    have HB := Lib.hid hB
    clear hown hB
    go_enter Tryz.func88, Tryz.ntmps88
    go_wp2_with (at_builtin; refine wpList_append_own_at _ rfl _ _ 32 rfl w.heap.size 62 i0 (.int .u32 0) 1 4 Tryz.underlying32 hi hz0 hz1 hz2 rfl (by decide) (.slice (some ⟨w.heap.size, 0, none⟩) 0 0) 0 [] rfl HO.out ad xs.length c (u32s xs).toList rfl (by simp [u32s]) HN.out (u32s_one xs) (by simp only [maxLen]; omega) (by omega) (by simp) ?_; intro v' w1 hown' hgrow hnil hat)
    go_ret
    rw [Nat.zero_add, List.nil_append] at hown'
    refine ⟨_, rfl, hown', HB.out.grown hgrow (by simp) (fun k hk => ?_)⟩
    have : w.heap.size = k := by simpa [Value.ownBlock] using hk
    omega

theorem clone_calls (w : World) (A : Option Addr) (c : Nat) (n : Nat) (hx : Parts w A (digs n)) (hc : (digs n).length ≤ c) :
    Calls Tryz.prog 88 #[.slice A (digs n).length c] w fun e w' => ∃ v bs, e = .returned v ∧ Own w' v n bs ∧ Fresh w.heap.size w' bs ∧ Below w.heap.size w w' :=
  (clone_row w A c (digs n) hx hc).mono fun e w' ⟨v, he, ho, hb⟩ => by
    obtain ⟨bs, h1, h2⟩ := ownsRow_own ho hx.2.1
    refine ⟨v, bs, he, h1, ⟨?_, fun b hb => ⟨(h2 b hb).1, (h2 b hb).2.1⟩⟩, hb⟩
    cases bs with
    | nil => simp
    | cons b l => exact (h2 b (by simp)).2.2

end Go.Proofs.YthofbikhomnjpaaGreatDoor
