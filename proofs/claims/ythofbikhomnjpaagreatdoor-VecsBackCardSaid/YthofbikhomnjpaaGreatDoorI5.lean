import Derived.Test.YthofbikhomnjpaaGreatDoorI4
namespace Go.Proofs.YthofbikhomnjpaaGreatDoor
open Go.RowKit
set_option linter.unusedVariables false
set_option linter.unusedSimpArgs false
attribute [local go_sem] max2_is max_is min2_is min_is

def sgn (z : Int) : Int := if z < 0 then -1 else if z = 0 then 0 else 1

theorem digs_pos_iff {n : Nat} : 0 < (digs n).length ↔ 0 < n := by
  constructor
  · intro h
    rcases Nat.eq_zero_or_pos n with h1 | h1
    · rw [h1, digs_zero] at h; exact absurd h (by simp)
    · exact h1
  · intro h
    rcases Nat.eq_zero_or_pos (digs n).length with h1 | h1
    · have := digs_eq_nil.1 (List.eq_nil_of_length_eq_zero h1); omega
    · exact h1

theorem isgn_calls (w : World) (v : Value) (z : Int) {B : Nat} (h : RInt B w v z) :
    Calls Tryz.prog 79 #[v] w fun e w' => e = .returned (.int .i64 (sgn z)) ∧ Below w.heap.size w w' := by
  obtain ⟨A, c, rfl, hc, hp⟩ := h
  have hpi := @digs_pos_iff z.natAbs
  by_cases h1 : z < 0
  · have hd : decide (z < 0) = true := decide_eq_true h1
    rw [hd]
    have hs : sgn z = -1 := by unfold sgn; rw [if_pos h1]
    rw [hs]
    clear hs hd hpi
    go_enter Tryz.func79, Tryz.ntmps79
    go_wp2_with fail
    go_ret
    exact ⟨rfl, by ((repeat (first | assumption | exact Below.refl _ _ | refine Below.drew ?_ | refine below_drewN ?_ _ | refine Below.alloc' ?_ _ | refine Below.setCell ?_ (by first | omega | (dsimp only; omega) | (simp; done) | (simp; omega)) _ | refine Below.alloc ?_ (by first | assumption | exact Nat.le_refl _ | omega | (simp; done) | (simp; omega)) _)))⟩
  · have hd : decide (z < 0) = false := decide_eq_false h1
    rw [hd]
    by_cases h2 : z = 0
    · have hl : ¬ 0 < (digs z.natAbs).length := by omega
      have hs : sgn z = 0 := by unfold sgn; rw [if_neg h1, if_pos h2]
      rw [hs]
      clear hs hd hpi h2
      generalize (digs z.natAbs).length = n at *
      go_enter Tryz.func79, Tryz.ntmps79
      go_wp2_with fail
      go_ret
      exact ⟨rfl, by ((repeat (first | assumption | exact Below.refl _ _ | refine Below.drew ?_ | refine below_drewN ?_ _ | refine Below.alloc' ?_ _ | refine Below.setCell ?_ (by first | omega | (dsimp only; omega) | (simp; done) | (simp; omega)) _ | refine Below.alloc ?_ (by first | assumption | exact Nat.le_refl _ | omega | (simp; done) | (simp; omega)) _)))⟩
    · have hl : 0 < (digs z.natAbs).length := by omega
      have hs : sgn z = 1 := by unfold sgn; rw [if_neg h1, if_neg h2]
      rw [hs]
      clear hs hd hpi h2
      generalize (digs z.natAbs).length = n at *
      go_enter Tryz.func79, Tryz.ntmps79
      go_wp2_with fail
      go_ret
      exact ⟨rfl, by ((repeat (first | assumption | exact Below.refl _ _ | refine Below.drew ?_ | refine below_drewN ?_ _ | refine Below.alloc' ?_ _ | refine Below.setCell ?_ (by first | omega | (dsimp only; omega) | (simp; done) | (simp; omega)) _ | refine Below.alloc ?_ (by first | assumption | exact Nat.le_refl _ | omega | (simp; done) | (simp; omega)) _)))⟩

theorem neg_wrap (n : Int) (h1 : -9223372036854775808 ≤ n) (h : n < 0) : IntKind.u64.wrap (wrap64 (-n)) = ((n.natAbs : Nat) : Int) := by
  rw [IntKind.wrap_u64]
  unfold wrap64
  omega

theorem iofn_calls (w : World) (n : Int) (h1 : -9223372036854775808 ≤ n) (h2 : n ≤ 9223372036854775807) :
    Calls Tryz.prog 38 #[.int .i64 n] w fun e w' => ∃ v bs, e = .returned v ∧ OwnI w' v n bs ∧ Fresh w.heap.size w' bs ∧ Below w.heap.size w w' := by
  obtain ⟨w3, h3, hB, b0⟩ := boxes1 w 34 #[.bool false, .slice none 0 0]
  have H3 := Lib.hid h3
  have B0 := Lib.hid b0
  have hs0 := hB.size
  clear h3 b0
  by_cases h : n < 0
  · have hd : decide (n < 0) = true := decide_eq_true h
    have hz : n = if true = true then -(n.natAbs : Int) else (n.natAbs : Int) := by simp; omega
    have HZ := Lib.hid hz
    clear hz
    have hN := Lib.hid (neg_wrap n h1 h)
    go_enter Tryz.func38, Tryz.ntmps38
    go_wp2_with fail
    rw [← H3.out, hN.out]
    refine (of_calls _ n.natAbs (by omega)).mono ?_
    rintro e w4 ⟨v4, bs, rfl, hO, hF, hB4⟩
    have HO := Lib.hid hO
    clear hO
    ((replace B0 := Lib.hid (Box.below (Box.below (Hid.out B0) (by ((repeat (first | assumption | exact Below.refl _ _ | refine Below.drew ?_ | refine below_drewN ?_ _ | refine Below.alloc' ?_ _ | refine Below.setCell ?_ (by first | omega | (dsimp only; omega) | (simp; done) | (simp; omega)) _ | refine Below.alloc ?_ (by first | assumption | exact Nat.le_refl _ | omega | (simp; done) | (simp; omega)) _))))) hB4); (try clear B0c1 B0c2 B0c3 B0c4); obtain ⟨B0c1, B0c2, B0c3, B0c4⟩ := Box.two (Hid.out B0); have := Box.lt (Hid.out B0)))
    ((replace hB := Below.on (Below.on hB (by ((repeat (first | assumption | exact Below.refl _ _ | refine Below.drew ?_ | refine below_drewN ?_ _ | refine Below.alloc' ?_ _ | refine Below.setCell ?_ (by first | omega | (dsimp only; omega) | (simp; done) | (simp; omega)) _ | refine Below.alloc ?_ (by first | assumption | exact Nat.le_refl _ | omega | (simp; done) | (simp; omega)) _))))) hB4; have := Below.size hB))
    go_wp2_with fail
    refine (signed_own _ true _ _ _ n HZ.out HO.out).mono ?_
    rintro e w5 ⟨v5, rfl, ⟨s5, rfl, hO5⟩, hB5⟩
    obtain ⟨A5, c5, rfl, -, -⟩ := hO5.reads
    have HO5 := Lib.hid hO5
    clear hO5
    have s5 := hB5.size
    ((replace B0 := Lib.hid (Box.below (Box.below (Hid.out B0) (by ((repeat (first | assumption | exact Below.refl _ _ | refine Below.drew ?_ | refine below_drewN ?_ _ | refine Below.alloc' ?_ _ | refine Below.setCell ?_ (by first | omega | (dsimp only; omega) | (simp; done) | (simp; omega)) _ | refine Below.alloc ?_ (by first | assumption | exact Nat.le_refl _ | omega | (simp; done) | (simp; omega)) _))))) hB5); (try clear B0c1 B0c2 B0c3 B0c4); obtain ⟨B0c1, B0c2, B0c3, B0c4⟩ := Box.two (Hid.out B0); have := Box.lt (Hid.out B0)))
    ((replace hB := Below.on (Below.on hB (by ((repeat (first | assumption | exact Below.refl _ _ | refine Below.drew ?_ | refine below_drewN ?_ _ | refine Below.alloc' ?_ _ | refine Below.setCell ?_ (by first | omega | (dsimp only; omega) | (simp; done) | (simp; omega)) _ | refine Below.alloc ?_ (by first | assumption | exact Nat.le_refl _ | omega | (simp; done) | (simp; omega)) _))))) hB5; have := Below.size hB))
    go_wp2_with fail
    refine bodyPost_ret (v := .agg #[.bool (decide (n < 0)), .slice A5 (digs n.natAbs).length c5]) (result_var rfl (g := w.heap.size) rfl (load_int2 _ _ _ _ (by rw [hd]; exact B0.out.put2 _ _))) rfl ⟨_, bs, rfl, OwnI.set2 ⟨_, rfl, HO5.out⟩ B0.out (by decide) _ _, ((hF.up s5).up (by simp)).low hs0, by ((repeat (first | assumption | exact Below.refl _ _ | refine Below.drew ?_ | refine below_drewN ?_ _ | refine Below.alloc' ?_ _ | refine Below.setCell ?_ (by first | omega | (dsimp only; omega) | (simp; done) | (simp; omega)) _ | refine Below.alloc ?_ (by first | assumption | exact Nat.le_refl _ | omega | (simp; done) | (simp; omega)) _)))⟩
  · have hd : decide (n < 0) = false := decide_eq_false h
    have hz : n = if false = true then -(n.natAbs : Int) else (n.natAbs : Int) := by simp; omega
    have HZ := Lib.hid hz
    clear hz
    have hN : Hid (n = ((n.natAbs : Nat) : Int)) := by show _ = _; omega
    go_enter Tryz.func38, Tryz.ntmps38
    go_wp2_with fail
    rw [← H3.out]
    have hof := of_calls w3 n.natAbs (by omega)
    rw [← hN.out] at hof
    refine hof.mono ?_
    clear hof
    rintro e w4 ⟨v4, bs, rfl, hO, hF, hB4⟩
    have HO := Lib.hid hO
    clear hO
    ((replace B0 := Lib.hid (Box.below (Box.below (Hid.out B0) (by ((repeat (first | assumption | exact Below.refl _ _ | refine Below.drew ?_ | refine below_drewN ?_ _ | refine Below.alloc' ?_ _ | refine Below.setCell ?_ (by first | omega | (dsimp only; omega) | (simp; done) | (simp; omega)) _ | refine Below.alloc ?_ (by first | assumption | exact Nat.le_refl _ | omega | (simp; done) | (simp; omega)) _))))) hB4); (try clear B0c1 B0c2 B0c3 B0c4); obtain ⟨B0c1, B0c2, B0c3, B0c4⟩ := Box.two (Hid.out B0); have := Box.lt (Hid.out B0)))
    ((replace hB := Below.on (Below.on hB (by ((repeat (first | assumption | exact Below.refl _ _ | refine Below.drew ?_ | refine below_drewN ?_ _ | refine Below.alloc' ?_ _ | refine Below.setCell ?_ (by first | omega | (dsimp only; omega) | (simp; done) | (simp; omega)) _ | refine Below.alloc ?_ (by first | assumption | exact Nat.le_refl _ | omega | (simp; done) | (simp; omega)) _))))) hB4; have := Below.size hB))
    go_wp2_with fail
    refine (signed_own _ false _ _ _ n HZ.out HO.out).mono ?_
    rintro e w5 ⟨v5, rfl, ⟨s5, rfl, hO5⟩, hB5⟩
    obtain ⟨A5, c5, rfl, -, -⟩ := hO5.reads
    have HO5 := Lib.hid hO5
    clear hO5
    have s5 := hB5.size
    ((replace B0 := Lib.hid (Box.below (Box.below (Hid.out B0) (by ((repeat (first | assumption | exact Below.refl _ _ | refine Below.drew ?_ | refine below_drewN ?_ _ | refine Below.alloc' ?_ _ | refine Below.setCell ?_ (by first | omega | (dsimp only; omega) | (simp; done) | (simp; omega)) _ | refine Below.alloc ?_ (by first | assumption | exact Nat.le_refl _ | omega | (simp; done) | (simp; omega)) _))))) hB5); (try clear B0c1 B0c2 B0c3 B0c4); obtain ⟨B0c1, B0c2, B0c3, B0c4⟩ := Box.two (Hid.out B0); have := Box.lt (Hid.out B0)))
    ((replace hB := Below.on (Below.on hB (by ((repeat (first | assumption | exact Below.refl _ _ | refine Below.drew ?_ | refine below_drewN ?_ _ | refine Below.alloc' ?_ _ | refine Below.setCell ?_ (by first | omega | (dsimp only; omega) | (simp; done) | (simp; omega)) _ | refine Below.alloc ?_ (by first | assumption | exact Nat.le_refl _ | omega | (simp; done) | (simp; omega)) _))))) hB5; have := Below.size hB))
    go_wp2_with fail
    refine bodyPost_ret (v := .agg #[.bool (decide (n < 0)), .slice A5 (digs n.natAbs).length c5]) (result_var rfl (g := w.heap.size) rfl (load_int2 _ _ _ _ (by rw [hd]; exact B0.out.put2 _ _))) rfl ⟨_, bs, rfl, OwnI.set2 ⟨_, rfl, HO5.out⟩ B0.out (by decide) _ _, ((hF.up s5).up (by simp)).low hs0, by ((repeat (first | assumption | exact Below.refl _ _ | refine Below.drew ?_ | refine below_drewN ?_ _ | refine Below.alloc' ?_ _ | refine Below.setCell ?_ (by first | omega | (dsimp only; omega) | (simp; done) | (simp; omega)) _ | refine Below.alloc ?_ (by first | assumption | exact Nat.le_refl _ | omega | (simp; done) | (simp; omega)) _)))⟩

end Go.Proofs.YthofbikhomnjpaaGreatDoor
