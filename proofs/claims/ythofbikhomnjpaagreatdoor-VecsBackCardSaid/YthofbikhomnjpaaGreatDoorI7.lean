import Derived.Test.YthofbikhomnjpaaGreatDoorI6
namespace Go.Proofs.YthofbikhomnjpaaGreatDoor
open Go.RowKit
set_option linter.unusedVariables false
set_option linter.unusedSimpArgs false
attribute [local go_sem] max2_is max_is min2_is min_is

def cmpZ (x y : Int) : Int := if x < y then -1 else if x = y then 0 else 1
theorem sgn_range (x : Int) : -1 ≤ sgn x ∧ sgn x ≤ 1 := by unfold sgn; split <;> (try split) <;> omega
theorem cmpZ_range (x y : Int) : -1 ≤ cmpZ x y ∧ cmpZ x y ≤ 1 := by unfold cmpZ; split <;> (try split) <;> omega
theorem cmpN_range (a b : Nat) : -1 ≤ cmpN a b ∧ cmpN a b ≤ 1 := by unfold cmpN; split <;> (try split) <;> omega
theorem cmpZ_differ {x y : Int} (h : sgn x ≠ sgn y) : cmpZ x y = max (-1) (min 1 (sgn x - sgn y)) := by
  unfold sgn at *
  unfold cmpZ
  repeat' split
  all_goals (first | omega | simp_all)
theorem cmpZ_same {x y : Int} (h : sgn x = sgn y) : cmpZ x y = cmpN (fval (digs x.natAbs)) (fval (digs y.natAbs)) * sgn x := by
  rw [fval_digs, fval_digs]
  unfold sgn at *
  unfold cmpZ cmpN
  repeat' split
  all_goals (first | omega | simp_all)

set_option maxRecDepth 100000 in
set_option maxHeartbeats 4000000 in
theorem icmp_calls (w : World) (v1 v2 : Value) (x y : Int) {B : Nat} (hx : RInt B w v1 x) (hy : RInt B w v2 y) (hBw : B ≤ w.heap.size) :
    Calls Tryz.prog 40 #[v1, v2] w fun e w' => e = .returned (.int .i64 (cmpZ x y)) ∧ Below w.heap.size w w' := by
  obtain ⟨A, c, rfl, -, -⟩ := id hx
  obtain ⟨A', c', rfl, -, -⟩ := id hy
  have HX := Lib.hid hx
  have HY := Lib.hid hy
  clear hx hy
  obtain ⟨w3, h3, hB, b0, b1⟩ := boxes2 w 34 34 #[.bool (decide (x < 0)), .slice A (digs x.natAbs).length c] #[.bool (decide (y < 0)), .slice A' (digs y.natAbs).length c']
  have H3 := Lib.hid h3
  have B0 := Lib.hid b0
  have B1 := Lib.hid b1
  clear h3 b0 b1
  go_enter Tryz.func40, Tryz.ntmps40
  go_wp2_with fail
  rw [← H3.out]
  (((try clear B0c1 B0c2 B0c3 B0c4); obtain ⟨B0c1, B0c2, B0c3, B0c4⟩ := Box.two (Hid.out B0)))
  (((try clear B1c1 B1c2 B1c3 B1c4); obtain ⟨B1c1, B1c2, B1c3, B1c4⟩ := Box.two (Hid.out B1)))
  go_cut [5, 6] from 7 to 10 (fun p5 p6 wx => ∃ g5 g6 A4 c4 A5 c5, p5 = .pointer (some ⟨g5, 0, none⟩) ∧ p6 = .pointer (some ⟨g6, 0, none⟩) ∧ w.heap.size + 1 < g5 ∧ w.heap.size + 1 < g6 ∧ Box wx g5 105 #[.bool (decide (x < 0)), .slice A4 (digs x.natAbs).length c4] ∧ Box wx g6 105 #[.bool (decide (y < 0)), .slice A5 (digs y.natAbs).length c5] ∧ RInt B wx (.agg #[.bool (decide (x < 0)), .slice A4 (digs x.natAbs).length c4]) x ∧ RInt B wx (.agg #[.bool (decide (y < 0)), .slice A5 (digs y.natAbs).length c5]) y ∧ Below w.heap.size w wx)
  case first =>
    refine wp_region_inv (I := fun listed a w' => ∃ (b0 b1 b2 b3 b4 b5 b6 b7 : Bool) (s5 s6 s7 s8 s9 s10 : Value), listed = #[b0, b1, b2, b3, b4, b5, b6, b7] ∧
      a = { tmps := #[.agg #[.bool (decide (x < 0)), .slice A (digs x.natAbs).length c], .agg #[.bool (decide (y < 0)), .slice A' (digs y.natAbs).length c'], .pointer (some ⟨w.heap.size, 0, none⟩), .pointer (some ⟨w.heap.size + 1, 0, none⟩), .int .i64 0, s5, s6, s7, s8, s9, s10, undef, undef, undef, undef, undef, undef, undef, undef, undef, undef, undef, undef, undef, undef, undef, undef, undef, undef, undef, undef], defers := [] } ∧
      (b0 = true → s7 = .agg #[.bool (decide (x < 0)), .slice A (digs x.natAbs).length c]) ∧ (b2 = true → s9 = .agg #[.bool (decide (y < 0)), .slice A' (digs y.natAbs).length c']) ∧
      (b1 = true → RInt B w' s8 x) ∧ (b3 = true → RInt B w' s10 y) ∧ (b6 = true → b1 = true ∧ b4 = true) ∧ (b7 = true → b3 = true ∧ b5 = true) ∧
      (b4 = true → ∃ cs, Var2 w' (w.heap.size + 1) s5 105 cs ∧ cs.size = 2 ∧ (b6 = true → s8 = .agg cs)) ∧
      (b5 = true → ∃ cs, Var2 w' (w.heap.size + 1) s6 105 cs ∧ cs.size = 2 ∧ (b7 = true → s10 = .agg cs)) ∧
      (b4 = true → b5 = true → s5 ≠ s6) ∧ Box w' w.heap.size 34 #[.bool (decide (x < 0)), .slice A (digs x.natAbs).length c] ∧ Box w' (w.heap.size + 1) 34 #[.bool (decide (y < 0)), .slice A' (digs y.natAbs).length c'] ∧ Below w.heap.size w w') (by kernel_rfl) (by kernel_rfl) ?_ ?_ ?_
    · exact ⟨false, false, false, false, false, false, false, false, undef, undef, undef, undef, undef, undef, rfl, rfl, by simp, by simp, by simp, by simp, by simp, by simp, by simp, by simp, by simp, B0.out, B1.out, hB.drew⟩
    · rintro listed a w' i ⟨b0, b1, b2, b3, b4, b5, b6, b7, s5, s6, s7, s8, s9, s10, rfl, rfl, h0, h2, h1, h3, h6, h7, h4, h5, hne, x0, x1, hBw'⟩ - hi
      obtain ⟨hun, o, ho, hed⟩ := mem_ready.1 hi
      have hi8 : i < 8 := (Array.getElem?_eq_some_iff.1 ho).1
      have X0 := Lib.hid x0; have X1 := Lib.hid x1
      clear x0 x1
      have hlo : w.heap.size + 1 < w'.heap.size := X1.out.lt
      match i, hi8 with
      | 0, _ =>
        refine wpOp_step rfl (fun K hK => ?_)
        (((try clear X0c1 X0c2 X0c3 X0c4); obtain ⟨X0c1, X0c2, X0c3, X0c4⟩ := Box.two (Hid.out X0)))
        go_simp
        exact hK _ _ ⟨true, b1, b2, b3, b4, b5, b6, b7, s5, s6, _, s8, s9, s10, rfl, rfl, fun _ => rfl, h2, h1, h3, h6, h7, h4, h5, hne, X0.out, X1.out, hBw'⟩
      | 1, _ =>
        simp only [List.getElem?_toArray, List.getElem?_cons_zero, List.getElem?_cons_succ, Option.some.injEq] at ho
        subst ho
        simp [Region.binds] at hed
        have e7 := h0 (by simpa using hed)
        subst e7
        have u1 : b1 = false := by simpa using hun
        have hn6 : ¬ b6 = true := fun h => by have := (h6 h).1; rw [u1] at this; cases this
        refine wpOp_step rfl (fun K hK => ?_)
        go_simp
        have hx' : RInt B w' (.agg #[.bool (decide (x < 0)), .slice A (digs x.natAbs).length c]) x := HX.out.below hBw'
        refine Calls.mono (iof_reads _ _ x hx' (Below.le hBw' hBw)) ?_
        rintro e w1 ⟨v8, rfl, r8, hB8⟩
        refine hK _ _ ⟨b0, true, b2, b3, b4, b5, b6, b7, s5, s6, _, v8, s9, s10, rfl, rfl, fun _ => rfl, h2, fun _ => r8, fun h => (h3 h).below hB8, fun h => absurd h hn6, h7, ?_, ?_, hne, X0.out.below hB8, X1.out.below hB8, Below.on hBw' hB8⟩
        · intro h; obtain ⟨cs, k1, k2, k3⟩ := h4 h; exact ⟨cs, k1.below hB8, k2, fun h => absurd h hn6⟩
        · intro h; obtain ⟨cs, k1, k2, k3⟩ := h5 h; exact ⟨cs, k1.below hB8, k2, k3⟩
      | 2, _ =>
        refine wpOp_step rfl (fun K hK => ?_)
        (((try clear X1c1 X1c2 X1c3 X1c4); obtain ⟨X1c1, X1c2, X1c3, X1c4⟩ := Box.two (Hid.out X1)))
        go_simp
        exact hK _ _ ⟨b0, b1, true, b3, b4, b5, b6, b7, s5, s6, s7, s8, _, s10, rfl, rfl, h0, fun _ => rfl, h1, h3, h6, h7, h4, h5, hne, X0.out, X1.out, hBw'⟩
      | 3, _ =>
        simp only [List.getElem?_toArray, List.getElem?_cons_zero, List.getElem?_cons_succ, Option.some.injEq] at ho
        subst ho
        simp [Region.binds] at hed
        have e9 := h2 (by simpa using hed.1)
        subst e9
        have u3 : b3 = false := by simpa using hun
        have hn7 : ¬ b7 = true := fun h => by have := (h7 h).1; rw [u3] at this; cases this
        refine wpOp_step rfl (fun K hK => ?_)
        go_simp
        have hy' : RInt B w' (.agg #[.bool (decide (y < 0)), .slice A' (digs y.natAbs).length c']) y := HY.out.below hBw'
        refine Calls.mono (iof_reads _ _ y hy' (Below.le hBw' hBw)) ?_
        rintro e w1 ⟨v8, rfl, r8, hB8⟩
        refine hK _ _ ⟨b0, b1, b2, true, b4, b5, b6, b7, s5, s6, s7, s8, _, v8, rfl, rfl, h0, fun _ => rfl, fun h => (h1 h).below hB8, fun _ => r8, h6, fun h => absurd h hn7, ?_, ?_, hne, X0.out.below hB8, X1.out.below hB8, Below.on hBw' hB8⟩
        · intro h; obtain ⟨cs, k1, k2, k3⟩ := h4 h; exact ⟨cs, k1.below hB8, k2, k3⟩
        · intro h; obtain ⟨cs, k1, k2, k3⟩ := h5 h; exact ⟨cs, k1.below hB8, k2, fun h => absurd h hn7⟩
      | 4, _ =>
        have u4 : b4 = false := by simpa using hun
        have hn6 : ¬ b6 = true := fun h => by have := (h6 h).2; rw [u4] at this; cases this
        refine wpOp_step rfl (fun K hK => ?_)
        go_simp
        refine hK _ _ ⟨b0, b1, b2, b3, true, b5, b6, b7, _, s6, s7, s8, s9, s10, rfl, rfl, h0, h2, fun h => (h1 h).below (by ((repeat (first | assumption | exact Below.refl _ _ | refine Below.drew ?_ | refine below_drewN ?_ _ | refine Below.alloc' ?_ _ | refine Below.setCell ?_ (by first | omega | (dsimp only; omega) | (simp; done) | (simp; omega)) _ | refine Below.alloc ?_ (by first | assumption | exact Nat.le_refl _ | omega | (simp; done) | (simp; omega)) _)))), fun h => (h3 h).below (by ((repeat (first | assumption | exact Below.refl _ _ | refine Below.drew ?_ | refine below_drewN ?_ _ | refine Below.alloc' ?_ _ | refine Below.setCell ?_ (by first | omega | (dsimp only; omega) | (simp; done) | (simp; omega)) _ | refine Below.alloc ?_ (by first | assumption | exact Nat.le_refl _ | omega | (simp; done) | (simp; omega)) _)))), fun h => absurd h hn6, h7, fun _ => ⟨_, ⟨_, rfl, hlo, Box.new _ _ _⟩, rfl, fun h => absurd h hn6⟩, ?_, ?_, X0.out.alloc _, X1.out.alloc _, Below.alloc' hBw' _⟩
        · intro h; obtain ⟨cs, k1, k2, k3⟩ := h5 h; exact ⟨cs, k1.alloc _, k2, k3⟩
        · intro _ h5' e
          obtain ⟨cs, ⟨g, k0, k1, k2⟩, _⟩ := h5 h5'
          rw [k0] at e; simp at e; have := k2.lt; omega
      | 5, _ =>
        have u5 : b5 = false := by simpa using hun
        have hn7 : ¬ b7 = true := fun h => by have := (h7 h).2; rw [u5] at this; cases this
        refine wpOp_step rfl (fun K hK => ?_)
        go_simp
        refine hK _ _ ⟨b0, b1, b2, b3, b4, true, b6, b7, s5, _, s7, s8, s9, s10, rfl, rfl, h0, h2, fun h => (h1 h).below (by ((repeat (first | assumption | exact Below.refl _ _ | refine Below.drew ?_ | refine below_drewN ?_ _ | refine Below.alloc' ?_ _ | refine Below.setCell ?_ (by first | omega | (dsimp only; omega) | (simp; done) | (simp; omega)) _ | refine Below.alloc ?_ (by first | assumption | exact Nat.le_refl _ | omega | (simp; done) | (simp; omega)) _)))), fun h => (h3 h).below (by ((repeat (first | assumption | exact Below.refl _ _ | refine Below.drew ?_ | refine below_drewN ?_ _ | refine Below.alloc' ?_ _ | refine Below.setCell ?_ (by first | omega | (dsimp only; omega) | (simp; done) | (simp; omega)) _ | refine Below.alloc ?_ (by first | assumption | exact Nat.le_refl _ | omega | (simp; done) | (simp; omega)) _)))), h6, fun h => absurd h hn7, ?_, fun _ => ⟨_, ⟨_, rfl, hlo, Box.new _ _ _⟩, rfl, fun h => absurd h hn7⟩, ?_, X0.out.alloc _, X1.out.alloc _, Below.alloc' hBw' _⟩
        · intro h; obtain ⟨cs, k1, k2, k3⟩ := h4 h; exact ⟨cs, k1.alloc _, k2, k3⟩
        · intro h4' _ e
          obtain ⟨cs, ⟨g, k0, k1, k2⟩, _⟩ := h4 h4'
          rw [k0] at e; simp at e; have := k2.lt; omega
      | 6, _ =>
        simp only [List.getElem?_toArray, List.getElem?_cons_zero, List.getElem?_cons_succ, Option.some.injEq] at ho
        subst ho
        simp [Region.binds] at hed
        obtain ⟨cs, ⟨g, rfl, k1, k2⟩, k3, k4⟩ := h4 (by simp [hed])
        obtain ⟨p, q, rfl⟩ := pair_of k3
        obtain ⟨A4, c4, rfl, r2, r3⟩ := h1 (by simp [hed])
        have R8 : Hid (RInt B w' (.agg #[.bool (decide (x < 0)), .slice A4 (digs x.natAbs).length c4]) x) := ⟨A4, c4, rfl, r2, r3⟩
        have K2 := Lib.hid k2
        clear k2 k4 r2 r3
        refine wpOp_step rfl (fun K hK => ?_)
        (((try clear K2c1 K2c2 K2c3 K2c4); obtain ⟨K2c1, K2c2, K2c3, K2c4⟩ := Box.two (Hid.out K2)))
        go_simp
        have hgB : B ≤ g := by have := Below.le hBw' hBw; omega
        refine hK _ _ ⟨b0, b1, b2, b3, b4, b5, true, b7, _, s6, _, _, _, s10, rfl, rfl, fun h => by first | rfl | exact h0 h, fun h => by first | rfl | exact h2 h, fun _ => R8.out.set2 K2.out (by decide) hgB _ _, fun h => (h3 h).set2 K2.out (by decide) hgB _ _, fun _ => by simp [hed], h7, fun _ => ⟨_, ⟨g, rfl, k1, K2.out.put2 _ _⟩, rfl, fun _ => rfl⟩, ?_, hne, (X0.out.far (by dsimp only; omega) _).far (by dsimp only; omega) _, (X1.out.far (by dsimp only; omega) _).far (by dsimp only; omega) _, by ((repeat (first | assumption | exact Below.refl _ _ | refine Below.drew ?_ | refine below_drewN ?_ _ | refine Below.alloc' ?_ _ | refine Below.setCell ?_ (by first | omega | (dsimp only; omega) | (simp; done) | (simp; omega)) _ | refine Below.alloc ?_ (by first | assumption | exact Nat.le_refl _ | omega | (simp; done) | (simp; omega)) _)))⟩
        intro h
        obtain ⟨cs, j1, j2, j3⟩ := h5 h
        have hs := hne (by simp [hed]) h
        exact ⟨cs, (j1.far (Ne.symm hs) 0).far (Ne.symm hs) 1, j2, j3⟩
      | 7, _ =>
        simp only [List.getElem?_toArray, List.getElem?_cons_zero, List.getElem?_cons_succ, Option.some.injEq] at ho
        subst ho
        simp [Region.binds] at hed
        obtain ⟨cs, ⟨g, rfl, k1, k2⟩, k3, k4⟩ := h5 (by simp [hed])
        obtain ⟨p, q, rfl⟩ := pair_of k3
        obtain ⟨A4, c4, rfl, r2, r3⟩ := h3 (by simp [hed])
        have R8 : Hid (RInt B w' (.agg #[.bool (decide (y < 0)), .slice A4 (digs y.natAbs).length c4]) y) := ⟨A4, c4, rfl, r2, r3⟩
        have K2 := Lib.hid k2
        clear k2 k4 r2 r3
        refine wpOp_step rfl (fun K hK => ?_)
        (((try clear K2c1 K2c2 K2c3 K2c4); obtain ⟨K2c1, K2c2, K2c3, K2c4⟩ := Box.two (Hid.out K2)))
        go_simp
        have hgB : B ≤ g := by have := Below.le hBw' hBw; omega
        refine hK _ _ ⟨b0, b1, b2, b3, b4, b5, b6, true, s5, _, _, s8, _, _, rfl, rfl, fun h => by first | rfl | exact h0 h, fun h => by first | rfl | exact h2 h, fun h => (h1 h).set2 K2.out (by decide) hgB _ _, fun _ => R8.out.set2 K2.out (by decide) hgB _ _, h6, fun _ => by simp [hed], ?_, fun _ => ⟨_, ⟨g, rfl, k1, K2.out.put2 _ _⟩, rfl, fun _ => rfl⟩, hne, (X0.out.far (by dsimp only; omega) _).far (by dsimp only; omega) _, (X1.out.far (by dsimp only; omega) _).far (by dsimp only; omega) _, by ((repeat (first | assumption | exact Below.refl _ _ | refine Below.drew ?_ | refine below_drewN ?_ _ | refine Below.alloc' ?_ _ | refine Below.setCell ?_ (by first | omega | (dsimp only; omega) | (simp; done) | (simp; omega)) _ | refine Below.alloc ?_ (by first | assumption | exact Nat.le_refl _ | omega | (simp; done) | (simp; omega)) _)))⟩
        intro h
        obtain ⟨cs, j1, j2, j3⟩ := h4 h
        have hs := hne h (by simp [hed])
        exact ⟨cs, (j1.far hs 0).far hs 1, j2, j3⟩
    · rintro listed a w' ⟨b0, b1, b2, b3, b4, b5, b6, b7, s5, s6, s7, s8, s9, s10, rfl, rfl, h0, h2, h1, h3, h6, h7, h4, h5, hne, x0, x1, hBw'⟩ hall
      have t4 : b4 = true := by simpa using hall 4 (by decide)
      have t5 : b5 = true := by simpa using hall 5 (by decide)
      have t6 : b6 = true := by simpa using hall 6 (by decide)
      have t7 : b7 = true := by simpa using hall 7 (by decide)
      have t1 : b1 = true := by simpa using hall 1 (by decide)
      have t3 : b3 = true := by simpa using hall 3 (by decide)
      obtain ⟨cs, ⟨g, rfl, k1, k2⟩, k3, k4⟩ := h4 t4
      obtain ⟨ds, ⟨g', rfl, j1, j2⟩, j3, j4⟩ := h5 t5
      obtain ⟨A4, c4, rfl, r2, r3⟩ := h1 t1
      obtain ⟨A5, c5, rfl, q2, q3⟩ := h3 t3
      have e1 := k4 t6
      have e2 := j4 t7
      cases e1
      cases e2
      have P1 : Hid (RInt B w' (.agg #[.bool (decide (x < 0)), .slice A4 (digs x.natAbs).length c4]) x) := ⟨A4, c4, rfl, r2, r3⟩
      have P2 : Hid (RInt B w' (.agg #[.bool (decide (y < 0)), .slice A5 (digs y.natAbs).length c5]) y) := ⟨A5, c5, rfl, q2, q3⟩
      have K2 := Lib.hid k2
      have J2 := Lib.hid j2
      clear k2 j2 x0 x1 h0 h2 h1 h3 h6 h7 h4 h5 hne r2 r3 q2 q3 k3 j3 k4 j4 hall
      go_wp2_with fail
      go_meet
      exact ⟨g, g', A4, c4, A5, c5, rfl, rfl, k1, j1, K2.out, J2.out, P1.out, P2.out, hBw'⟩
  case rest =>
    obtain ⟨g, g', A4, c4, A5, c5, rfl, rfl, hg5, hg6, k1, j1, r1, r2, hb⟩ := hcut
    have K1 := Lib.hid k1
    have J1 := Lib.hid j1
    have R1 := Lib.hid r1
    have R2 := Lib.hid r2
    clear k1 j1 r1 r2 B0 B1 hB
    (((try clear K1c1 K1c2 K1c3 K1c4); obtain ⟨K1c1, K1c2, K1c3, K1c4⟩ := Box.two (Hid.out K1)))
    (((try clear J1c1 J1c2 J1c3 J1c4); obtain ⟨J1c1, J1c2, J1c3, J1c4⟩ := Box.two (Hid.out J1)))
    go_wp2_with fail
    go_cut [15] from 11 to 15 (fun t wx => t = .bool (sgn x != sgn y) ∧ Box wx g 105 #[.bool (decide (x < 0)), .slice A4 (digs x.natAbs).length c4] ∧ Box wx g' 105 #[.bool (decide (y < 0)), .slice A5 (digs y.natAbs).length c5] ∧ RInt B wx (.agg #[.bool (decide (x < 0)), .slice A4 (digs x.natAbs).length c4]) x ∧ RInt B wx (.agg #[.bool (decide (y < 0)), .slice A5 (digs y.natAbs).length c5]) y ∧ Below w.heap.size w wx)
    case first =>
      go_region_held3 (fun w' => w'.cell? ⟨g, 0, none⟩ = some (.bool (decide (x < 0))) ∧ w'.cell? ⟨g, 1, none⟩ = some (.slice A4 (digs x.natAbs).length c4) ∧ w'.cell? ⟨g', 0, none⟩ = some (.bool (decide (y < 0))) ∧ w'.cell? ⟨g', 1, none⟩ = some (.slice A5 (digs y.natAbs).length c5)) (first | (((repeat' apply And.intro) <;> (repeat (first | assumption | refine cell_alloc ?_ | refine cell_far ?_ (by first | omega | (dsimp only; omega) | (simp; done) | (simp; omega)))))) | go_keep) (first
        | (go_at_call 79; ((with_reducible refine Calls.mono (isgn_calls _ _ x (R1.out.below (by ((repeat (first | assumption | exact Below.refl _ _ | refine Below.drew ?_ | refine below_drewN ?_ _ | refine Below.alloc' ?_ _ | refine Below.setCell ?_ (by first | omega | (dsimp only; omega) | (simp; done) | (simp; omega)) _ | refine Below.alloc ?_ (by first | assumption | exact Nat.le_refl _ | omega | (simp; done) | (simp; omega)) _)))))) ?_); rintro e w4 ⟨rfl, hB1⟩; ((replace K1 := Lib.hid (Box.below (Box.below (Hid.out K1) (by ((repeat (first | assumption | exact Below.refl _ _ | refine Below.drew ?_ | refine below_drewN ?_ _ | refine Below.alloc' ?_ _ | refine Below.setCell ?_ (by first | omega | (dsimp only; omega) | (simp; done) | (simp; omega)) _ | refine Below.alloc ?_ (by first | assumption | exact Nat.le_refl _ | omega | (simp; done) | (simp; omega)) _))))) hB1); (try clear K1c1 K1c2 K1c3 K1c4); obtain ⟨K1c1, K1c2, K1c3, K1c4⟩ := Box.two (Hid.out K1); have := Box.lt (Hid.out K1))); ((replace J1 := Lib.hid (Box.below (Box.below (Hid.out J1) (by ((repeat (first | assumption | exact Below.refl _ _ | refine Below.drew ?_ | refine below_drewN ?_ _ | refine Below.alloc' ?_ _ | refine Below.setCell ?_ (by first | omega | (dsimp only; omega) | (simp; done) | (simp; omega)) _ | refine Below.alloc ?_ (by first | assumption | exact Nat.le_refl _ | omega | (simp; done) | (simp; omega)) _))))) hB1); (try clear J1c1 J1c2 J1c3 J1c4); obtain ⟨J1c1, J1c2, J1c3, J1c4⟩ := Box.two (Hid.out J1); have := Box.lt (Hid.out J1))); (replace R1 := Lib.hid (RInt.below (RInt.below (Hid.out R1) (by ((repeat (first | assumption | exact Below.refl _ _ | refine Below.drew ?_ | refine below_drewN ?_ _ | refine Below.alloc' ?_ _ | refine Below.setCell ?_ (by first | omega | (dsimp only; omega) | (simp; done) | (simp; omega)) _ | refine Below.alloc ?_ (by first | assumption | exact Nat.le_refl _ | omega | (simp; done) | (simp; omega)) _))))) hB1)); (replace R2 := Lib.hid (RInt.below (RInt.below (Hid.out R2) (by ((repeat (first | assumption | exact Below.refl _ _ | refine Below.drew ?_ | refine below_drewN ?_ _ | refine Below.alloc' ?_ _ | refine Below.setCell ?_ (by first | omega | (dsimp only; omega) | (simp; done) | (simp; omega)) _ | refine Below.alloc ?_ (by first | assumption | exact Nat.le_refl _ | omega | (simp; done) | (simp; omega)) _))))) hB1)); ((replace hb := Below.on (Below.on hb (by ((repeat (first | assumption | exact Below.refl _ _ | refine Below.drew ?_ | refine below_drewN ?_ _ | refine Below.alloc' ?_ _ | refine Below.setCell ?_ (by first | omega | (dsimp only; omega) | (simp; done) | (simp; omega)) _ | refine Below.alloc ?_ (by first | assumption | exact Nat.le_refl _ | omega | (simp; done) | (simp; omega)) _))))) hB1; have := Below.size hb))))
        | (go_at_call 79; ((with_reducible refine Calls.mono (isgn_calls _ _ y (R2.out.below (by ((repeat (first | assumption | exact Below.refl _ _ | refine Below.drew ?_ | refine below_drewN ?_ _ | refine Below.alloc' ?_ _ | refine Below.setCell ?_ (by first | omega | (dsimp only; omega) | (simp; done) | (simp; omega)) _ | refine Below.alloc ?_ (by first | assumption | exact Nat.le_refl _ | omega | (simp; done) | (simp; omega)) _)))))) ?_); rintro e w5 ⟨rfl, hB2⟩; ((replace K1 := Lib.hid (Box.below (Box.below (Hid.out K1) (by ((repeat (first | assumption | exact Below.refl _ _ | refine Below.drew ?_ | refine below_drewN ?_ _ | refine Below.alloc' ?_ _ | refine Below.setCell ?_ (by first | omega | (dsimp only; omega) | (simp; done) | (simp; omega)) _ | refine Below.alloc ?_ (by first | assumption | exact Nat.le_refl _ | omega | (simp; done) | (simp; omega)) _))))) hB2); (try clear K1c1 K1c2 K1c3 K1c4); obtain ⟨K1c1, K1c2, K1c3, K1c4⟩ := Box.two (Hid.out K1); have := Box.lt (Hid.out K1))); ((replace J1 := Lib.hid (Box.below (Box.below (Hid.out J1) (by ((repeat (first | assumption | exact Below.refl _ _ | refine Below.drew ?_ | refine below_drewN ?_ _ | refine Below.alloc' ?_ _ | refine Below.setCell ?_ (by first | omega | (dsimp only; omega) | (simp; done) | (simp; omega)) _ | refine Below.alloc ?_ (by first | assumption | exact Nat.le_refl _ | omega | (simp; done) | (simp; omega)) _))))) hB2); (try clear J1c1 J1c2 J1c3 J1c4); obtain ⟨J1c1, J1c2, J1c3, J1c4⟩ := Box.two (Hid.out J1); have := Box.lt (Hid.out J1))); (replace R1 := Lib.hid (RInt.below (RInt.below (Hid.out R1) (by ((repeat (first | assumption | exact Below.refl _ _ | refine Below.drew ?_ | refine below_drewN ?_ _ | refine Below.alloc' ?_ _ | refine Below.setCell ?_ (by first | omega | (dsimp only; omega) | (simp; done) | (simp; omega)) _ | refine Below.alloc ?_ (by first | assumption | exact Nat.le_refl _ | omega | (simp; done) | (simp; omega)) _))))) hB2)); (replace R2 := Lib.hid (RInt.below (RInt.below (Hid.out R2) (by ((repeat (first | assumption | exact Below.refl _ _ | refine Below.drew ?_ | refine below_drewN ?_ _ | refine Below.alloc' ?_ _ | refine Below.setCell ?_ (by first | omega | (dsimp only; omega) | (simp; done) | (simp; omega)) _ | refine Below.alloc ?_ (by first | assumption | exact Nat.le_refl _ | omega | (simp; done) | (simp; omega)) _))))) hB2)); ((replace hb := Below.on (Below.on hb (by ((repeat (first | assumption | exact Below.refl _ _ | refine Below.drew ?_ | refine below_drewN ?_ _ | refine Below.alloc' ?_ _ | refine Below.setCell ?_ (by first | omega | (dsimp only; omega) | (simp; done) | (simp; omega)) _ | refine Below.alloc ?_ (by first | assumption | exact Nat.le_refl _ | omega | (simp; done) | (simp; omega)) _))))) hB2; have := Below.size hb)))))
      go_wp2_with fail
      go_meet
      exact ⟨by first | rfl | simp, K1.out, J1.out, R1.out, R2.out, hb⟩
    case rest =>
      obtain ⟨rfl, k1, j1, r1, r2, hb'⟩ := hcut
      clear K1 J1 R1 R2 hb
      have hb := hb'
      have K1 := Lib.hid k1
      have J1 := Lib.hid j1
      have R1 := Lib.hid r1
      have R2 := Lib.hid r2
      clear k1 j1 r1 r2 hb'
      (((try clear K1c1 K1c2 K1c3 K1c4); obtain ⟨K1c1, K1c2, K1c3, K1c4⟩ := Box.two (Hid.out K1)))
      (((try clear J1c1 J1c2 J1c3 J1c4); obtain ⟨J1c1, J1c2, J1c3, J1c4⟩ := Box.two (Hid.out J1)))
      by_cases hs : sgn x = sgn y
      · have hsb : (sgn x != sgn y) = false := by simp [hs]
        have P4 : Hid (Parts wc A4 (digs x.natAbs)) := by obtain ⟨A, c, e, _, hp⟩ := R1.out; cases e; exact hp.1
        have P5 : Hid (Parts wc A5 (digs y.natAbs)) := by obtain ⟨A, c, e, _, hp⟩ := R2.out; cases e; exact hp.1
        have l4 : (digs x.natAbs).length ≤ c4 := by obtain ⟨A, c, e, h, _⟩ := R1.out; cases e; exact h
        have l5 : (digs y.natAbs).length ≤ c5 := by obtain ⟨A, c, e, h, _⟩ := R2.out; cases e; exact h
        have hz := cmpZ_same hs
        have HZ := Lib.hid hz
        have hr1 := cmpN_range x.natAbs y.natAbs
        have hr2 := sgn_range x
        have hr3 := cmpZ_range x y
        clear hz hs
        go_wp2_with fail
        go_region_held3 (fun w' => w'.cell? ⟨g, 0, none⟩ = some (.bool (decide (x < 0))) ∧ w'.cell? ⟨g, 1, none⟩ = some (.slice A4 (digs x.natAbs).length c4) ∧ w'.cell? ⟨g', 0, none⟩ = some (.bool (decide (y < 0))) ∧ w'.cell? ⟨g', 1, none⟩ = some (.slice A5 (digs y.natAbs).length c5)) (first | (((repeat' apply And.intro) <;> (repeat (first | assumption | refine cell_alloc ?_ | refine cell_far ?_ (by first | omega | (dsimp only; omega) | (simp; done) | (simp; omega)))))) | go_keep) (first
          | (go_at_call 80; ((with_reducible refine Calls.mono (cmp_calls _ _ _ _ _ (digs x.natAbs) (digs y.natAbs) (P4.out.below (by ((repeat (first | assumption | exact Below.refl _ _ | refine Below.drew ?_ | refine below_drewN ?_ _ | refine Below.alloc' ?_ _ | refine Below.setCell ?_ (by first | omega | (dsimp only; omega) | (simp; done) | (simp; omega)) _ | refine Below.alloc ?_ (by first | assumption | exact Nat.le_refl _ | omega | (simp; done) | (simp; omega)) _))))) (P5.out.below (by ((repeat (first | assumption | exact Below.refl _ _ | refine Below.drew ?_ | refine below_drewN ?_ _ | refine Below.alloc' ?_ _ | refine Below.setCell ?_ (by first | omega | (dsimp only; omega) | (simp; done) | (simp; omega)) _ | refine Below.alloc ?_ (by first | assumption | exact Nat.le_refl _ | omega | (simp; done) | (simp; omega)) _))))) l4 l5) ?_); rintro e w4 ⟨rfl, hB1⟩; ((replace K1 := Lib.hid (Box.below (Box.below (Hid.out K1) (by ((repeat (first | assumption | exact Below.refl _ _ | refine Below.drew ?_ | refine below_drewN ?_ _ | refine Below.alloc' ?_ _ | refine Below.setCell ?_ (by first | omega | (dsimp only; omega) | (simp; done) | (simp; omega)) _ | refine Below.alloc ?_ (by first | assumption | exact Nat.le_refl _ | omega | (simp; done) | (simp; omega)) _))))) hB1); (try clear K1c1 K1c2 K1c3 K1c4); obtain ⟨K1c1, K1c2, K1c3, K1c4⟩ := Box.two (Hid.out K1); have := Box.lt (Hid.out K1))); ((replace J1 := Lib.hid (Box.below (Box.below (Hid.out J1) (by ((repeat (first | assumption | exact Below.refl _ _ | refine Below.drew ?_ | refine below_drewN ?_ _ | refine Below.alloc' ?_ _ | refine Below.setCell ?_ (by first | omega | (dsimp only; omega) | (simp; done) | (simp; omega)) _ | refine Below.alloc ?_ (by first | assumption | exact Nat.le_refl _ | omega | (simp; done) | (simp; omega)) _))))) hB1); (try clear J1c1 J1c2 J1c3 J1c4); obtain ⟨J1c1, J1c2, J1c3, J1c4⟩ := Box.two (Hid.out J1); have := Box.lt (Hid.out J1))); (replace R1 := Lib.hid (RInt.below (RInt.below (Hid.out R1) (by ((repeat (first | assumption | exact Below.refl _ _ | refine Below.drew ?_ | refine below_drewN ?_ _ | refine Below.alloc' ?_ _ | refine Below.setCell ?_ (by first | omega | (dsimp only; omega) | (simp; done) | (simp; omega)) _ | refine Below.alloc ?_ (by first | assumption | exact Nat.le_refl _ | omega | (simp; done) | (simp; omega)) _))))) hB1)); (replace R2 := Lib.hid (RInt.below (RInt.below (Hid.out R2) (by ((repeat (first | assumption | exact Below.refl _ _ | refine Below.drew ?_ | refine below_drewN ?_ _ | refine Below.alloc' ?_ _ | refine Below.setCell ?_ (by first | omega | (dsimp only; omega) | (simp; done) | (simp; omega)) _ | refine Below.alloc ?_ (by first | assumption | exact Nat.le_refl _ | omega | (simp; done) | (simp; omega)) _))))) hB1)); ((replace hb := Below.on (Below.on hb (by ((repeat (first | assumption | exact Below.refl _ _ | refine Below.drew ?_ | refine below_drewN ?_ _ | refine Below.alloc' ?_ _ | refine Below.setCell ?_ (by first | omega | (dsimp only; omega) | (simp; done) | (simp; omega)) _ | refine Below.alloc ?_ (by first | assumption | exact Nat.le_refl _ | omega | (simp; done) | (simp; omega)) _))))) hB1; have := Below.size hb))))
          | (go_at_call 79; ((with_reducible refine Calls.mono (isgn_calls _ _ x (R1.out.below (by ((repeat (first | assumption | exact Below.refl _ _ | refine Below.drew ?_ | refine below_drewN ?_ _ | refine Below.alloc' ?_ _ | refine Below.setCell ?_ (by first | omega | (dsimp only; omega) | (simp; done) | (simp; omega)) _ | refine Below.alloc ?_ (by first | assumption | exact Nat.le_refl _ | omega | (simp; done) | (simp; omega)) _)))))) ?_); rintro e w4 ⟨rfl, hB1⟩; ((replace K1 := Lib.hid (Box.below (Box.below (Hid.out K1) (by ((repeat (first | assumption | exact Below.refl _ _ | refine Below.drew ?_ | refine below_drewN ?_ _ | refine Below.alloc' ?_ _ | refine Below.setCell ?_ (by first | omega | (dsimp only; omega) | (simp; done) | (simp; omega)) _ | refine Below.alloc ?_ (by first | assumption | exact Nat.le_refl _ | omega | (simp; done) | (simp; omega)) _))))) hB1); (try clear K1c1 K1c2 K1c3 K1c4); obtain ⟨K1c1, K1c2, K1c3, K1c4⟩ := Box.two (Hid.out K1); have := Box.lt (Hid.out K1))); ((replace J1 := Lib.hid (Box.below (Box.below (Hid.out J1) (by ((repeat (first | assumption | exact Below.refl _ _ | refine Below.drew ?_ | refine below_drewN ?_ _ | refine Below.alloc' ?_ _ | refine Below.setCell ?_ (by first | omega | (dsimp only; omega) | (simp; done) | (simp; omega)) _ | refine Below.alloc ?_ (by first | assumption | exact Nat.le_refl _ | omega | (simp; done) | (simp; omega)) _))))) hB1); (try clear J1c1 J1c2 J1c3 J1c4); obtain ⟨J1c1, J1c2, J1c3, J1c4⟩ := Box.two (Hid.out J1); have := Box.lt (Hid.out J1))); (replace R1 := Lib.hid (RInt.below (RInt.below (Hid.out R1) (by ((repeat (first | assumption | exact Below.refl _ _ | refine Below.drew ?_ | refine below_drewN ?_ _ | refine Below.alloc' ?_ _ | refine Below.setCell ?_ (by first | omega | (dsimp only; omega) | (simp; done) | (simp; omega)) _ | refine Below.alloc ?_ (by first | assumption | exact Nat.le_refl _ | omega | (simp; done) | (simp; omega)) _))))) hB1)); (replace R2 := Lib.hid (RInt.below (RInt.below (Hid.out R2) (by ((repeat (first | assumption | exact Below.refl _ _ | refine Below.drew ?_ | refine below_drewN ?_ _ | refine Below.alloc' ?_ _ | refine Below.setCell ?_ (by first | omega | (dsimp only; omega) | (simp; done) | (simp; omega)) _ | refine Below.alloc ?_ (by first | assumption | exact Nat.le_refl _ | omega | (simp; done) | (simp; omega)) _))))) hB1)); ((replace hb := Below.on (Below.on hb (by ((repeat (first | assumption | exact Below.refl _ _ | refine Below.drew ?_ | refine below_drewN ?_ _ | refine Below.alloc' ?_ _ | refine Below.setCell ?_ (by first | omega | (dsimp only; omega) | (simp; done) | (simp; omega)) _ | refine Below.alloc ?_ (by first | assumption | exact Nat.le_refl _ | omega | (simp; done) | (simp; omega)) _))))) hB1; have := Below.size hb)))))
        rw [← HZ.out, IntWalk.i64_in (cmpZ x y) (by omega)]
        go_wp2_with fail
        go_ret
        exact ⟨rfl, hb⟩
      · have hsb : (sgn x != sgn y) = true := by simp [hs]
        have HZ := Lib.hid (cmpZ_differ hs)
        have hr1 := sgn_range x
        have hr2 := sgn_range y
        clear hs
        go_wp2_with fail
        go_region_held3 (fun w' => w'.cell? ⟨g, 0, none⟩ = some (.bool (decide (x < 0))) ∧ w'.cell? ⟨g, 1, none⟩ = some (.slice A4 (digs x.natAbs).length c4) ∧ w'.cell? ⟨g', 0, none⟩ = some (.bool (decide (y < 0))) ∧ w'.cell? ⟨g', 1, none⟩ = some (.slice A5 (digs y.natAbs).length c5)) (first | (((repeat' apply And.intro) <;> (repeat (first | assumption | refine cell_alloc ?_ | refine cell_far ?_ (by first | omega | (dsimp only; omega) | (simp; done) | (simp; omega)))))) | go_keep) (first
          | (go_at_call 79; ((with_reducible refine Calls.mono (isgn_calls _ _ x (R1.out.below (by ((repeat (first | assumption | exact Below.refl _ _ | refine Below.drew ?_ | refine below_drewN ?_ _ | refine Below.alloc' ?_ _ | refine Below.setCell ?_ (by first | omega | (dsimp only; omega) | (simp; done) | (simp; omega)) _ | refine Below.alloc ?_ (by first | assumption | exact Nat.le_refl _ | omega | (simp; done) | (simp; omega)) _)))))) ?_); rintro e w4 ⟨rfl, hB1⟩; ((replace K1 := Lib.hid (Box.below (Box.below (Hid.out K1) (by ((repeat (first | assumption | exact Below.refl _ _ | refine Below.drew ?_ | refine below_drewN ?_ _ | refine Below.alloc' ?_ _ | refine Below.setCell ?_ (by first | omega | (dsimp only; omega) | (simp; done) | (simp; omega)) _ | refine Below.alloc ?_ (by first | assumption | exact Nat.le_refl _ | omega | (simp; done) | (simp; omega)) _))))) hB1); (try clear K1c1 K1c2 K1c3 K1c4); obtain ⟨K1c1, K1c2, K1c3, K1c4⟩ := Box.two (Hid.out K1); have := Box.lt (Hid.out K1))); ((replace J1 := Lib.hid (Box.below (Box.below (Hid.out J1) (by ((repeat (first | assumption | exact Below.refl _ _ | refine Below.drew ?_ | refine below_drewN ?_ _ | refine Below.alloc' ?_ _ | refine Below.setCell ?_ (by first | omega | (dsimp only; omega) | (simp; done) | (simp; omega)) _ | refine Below.alloc ?_ (by first | assumption | exact Nat.le_refl _ | omega | (simp; done) | (simp; omega)) _))))) hB1); (try clear J1c1 J1c2 J1c3 J1c4); obtain ⟨J1c1, J1c2, J1c3, J1c4⟩ := Box.two (Hid.out J1); have := Box.lt (Hid.out J1))); (replace R1 := Lib.hid (RInt.below (RInt.below (Hid.out R1) (by ((repeat (first | assumption | exact Below.refl _ _ | refine Below.drew ?_ | refine below_drewN ?_ _ | refine Below.alloc' ?_ _ | refine Below.setCell ?_ (by first | omega | (dsimp only; omega) | (simp; done) | (simp; omega)) _ | refine Below.alloc ?_ (by first | assumption | exact Nat.le_refl _ | omega | (simp; done) | (simp; omega)) _))))) hB1)); (replace R2 := Lib.hid (RInt.below (RInt.below (Hid.out R2) (by ((repeat (first | assumption | exact Below.refl _ _ | refine Below.drew ?_ | refine below_drewN ?_ _ | refine Below.alloc' ?_ _ | refine Below.setCell ?_ (by first | omega | (dsimp only; omega) | (simp; done) | (simp; omega)) _ | refine Below.alloc ?_ (by first | assumption | exact Nat.le_refl _ | omega | (simp; done) | (simp; omega)) _))))) hB1)); ((replace hb := Below.on (Below.on hb (by ((repeat (first | assumption | exact Below.refl _ _ | refine Below.drew ?_ | refine below_drewN ?_ _ | refine Below.alloc' ?_ _ | refine Below.setCell ?_ (by first | omega | (dsimp only; omega) | (simp; done) | (simp; omega)) _ | refine Below.alloc ?_ (by first | assumption | exact Nat.le_refl _ | omega | (simp; done) | (simp; omega)) _))))) hB1; have := Below.size hb))))
          | (go_at_call 79; ((with_reducible refine Calls.mono (isgn_calls _ _ y (R2.out.below (by ((repeat (first | assumption | exact Below.refl _ _ | refine Below.drew ?_ | refine below_drewN ?_ _ | refine Below.alloc' ?_ _ | refine Below.setCell ?_ (by first | omega | (dsimp only; omega) | (simp; done) | (simp; omega)) _ | refine Below.alloc ?_ (by first | assumption | exact Nat.le_refl _ | omega | (simp; done) | (simp; omega)) _)))))) ?_); rintro e w5 ⟨rfl, hB2⟩; ((replace K1 := Lib.hid (Box.below (Box.below (Hid.out K1) (by ((repeat (first | assumption | exact Below.refl _ _ | refine Below.drew ?_ | refine below_drewN ?_ _ | refine Below.alloc' ?_ _ | refine Below.setCell ?_ (by first | omega | (dsimp only; omega) | (simp; done) | (simp; omega)) _ | refine Below.alloc ?_ (by first | assumption | exact Nat.le_refl _ | omega | (simp; done) | (simp; omega)) _))))) hB2); (try clear K1c1 K1c2 K1c3 K1c4); obtain ⟨K1c1, K1c2, K1c3, K1c4⟩ := Box.two (Hid.out K1); have := Box.lt (Hid.out K1))); ((replace J1 := Lib.hid (Box.below (Box.below (Hid.out J1) (by ((repeat (first | assumption | exact Below.refl _ _ | refine Below.drew ?_ | refine below_drewN ?_ _ | refine Below.alloc' ?_ _ | refine Below.setCell ?_ (by first | omega | (dsimp only; omega) | (simp; done) | (simp; omega)) _ | refine Below.alloc ?_ (by first | assumption | exact Nat.le_refl _ | omega | (simp; done) | (simp; omega)) _))))) hB2); (try clear J1c1 J1c2 J1c3 J1c4); obtain ⟨J1c1, J1c2, J1c3, J1c4⟩ := Box.two (Hid.out J1); have := Box.lt (Hid.out J1))); (replace R1 := Lib.hid (RInt.below (RInt.below (Hid.out R1) (by ((repeat (first | assumption | exact Below.refl _ _ | refine Below.drew ?_ | refine below_drewN ?_ _ | refine Below.alloc' ?_ _ | refine Below.setCell ?_ (by first | omega | (dsimp only; omega) | (simp; done) | (simp; omega)) _ | refine Below.alloc ?_ (by first | assumption | exact Nat.le_refl _ | omega | (simp; done) | (simp; omega)) _))))) hB2)); (replace R2 := Lib.hid (RInt.below (RInt.below (Hid.out R2) (by ((repeat (first | assumption | exact Below.refl _ _ | refine Below.drew ?_ | refine below_drewN ?_ _ | refine Below.alloc' ?_ _ | refine Below.setCell ?_ (by first | omega | (dsimp only; omega) | (simp; done) | (simp; omega)) _ | refine Below.alloc ?_ (by first | assumption | exact Nat.le_refl _ | omega | (simp; done) | (simp; omega)) _))))) hB2)); ((replace hb := Below.on (Below.on hb (by ((repeat (first | assumption | exact Below.refl _ _ | refine Below.drew ?_ | refine below_drewN ?_ _ | refine Below.alloc' ?_ _ | refine Below.setCell ?_ (by first | omega | (dsimp only; omega) | (simp; done) | (simp; omega)) _ | refine Below.alloc ?_ (by first | assumption | exact Nat.le_refl _ | omega | (simp; done) | (simp; omega)) _))))) hB2; have := Below.size hb)))))
        rw [IntWalk.i64_in (sgn x - sgn y) (by omega)]
        rw [← HZ.out]
        go_wp2_with fail
        go_ret
        exact ⟨rfl, hb⟩

end Go.Proofs.YthofbikhomnjpaaGreatDoor
