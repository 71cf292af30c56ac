import Derived.Test.YthofbikhomnjpaaGreatDoorL6
import Derived.Test.YthofbikhomnjpaaGreatDoorQ2
namespace Go.Proofs.YthofbikhomnjpaaGreatDoor
open Go.RowKit
set_option linter.unusedVariables false
set_option linter.unusedSimpArgs false

theorem Box.three_alloc {w : World} {g : Nat} {t : TypeId} {a b c : Value} (h : Box w g t #[a, b, c]) : (∀ o, (w.alloc o).cell? ⟨g, 0, none⟩ = some a) ∧ (∀ o, (w.alloc o).cell? ⟨g, 1, none⟩ = some b) ∧ (∀ o, (w.alloc o).cell? ⟨g, 2, none⟩ = some c) := ⟨fun o => (h.alloc o).cell 0, fun o => (h.alloc o).cell 1, fun o => (h.alloc o).cell 2⟩
theorem sgn_zero_iff (x : Int) : sgn x = 0 ↔ x = 0 := by
  unfold sgn
  split <;> (try split) <;> omega
theorem sgn_ge {x : Int} (h : 0 ≤ x) : 0 ≤ sgn x := by
  unfold sgn
  split <;> (try split) <;> omega
theorem lists_two' {B : Nat} {w : World} {A A' : Option Addr} {c c' : Nat} {rs ss : List Raw} (h : RatsAt B w A rs) (h' : RatsAt B w A' ss) (hc : rs.length ≤ c) (hc' : ss.length ≤ c') : ListsAt B (w.alloc (.cells #[.slice A rs.length c, .slice A' ss.length c'] 23)) w.heap.size [rs, ss] := lists_two ⟨A, c, rfl, hc, h⟩ ⟨A', c', rfl, hc', h'⟩

set_option maxRecDepth 100000 in
set_option maxHeartbeats 8000000 in
theorem turnedlaw_calls (w : World) (A A' : Option Addr) (c c' : Nat) (rs ss : List Raw) {B : Nat} (h : RatsAt B w A rs) (h' : RatsAt B w A' ss) (hc : rs.length ≤ c) (hc' : ss.length ≤ c') (hT : Tab w) (hBw : B ≤ w.heap.size) :
    Calls Tryz.prog 6 #[.slice A rs.length c, .slice A' ss.length c'] w fun e w' => e = .returned (.bool true) ∧ Below w.heap.size w w' := by
  have hl := h.1
  have hl' := h'.1
  have H := Lib.hid h
  have H' := Lib.hid h'
  have HT := Lib.hid hT
  clear h h' hT
  go_enter Tryz.func6, Tryz.ntmps6
  go_wp2_with fail
  refine (alive04_calls w HT.out).mono ?_
  rintro e w4 ⟨rfl, hB⟩
  have hs4 := hB.size
  go_wp2_with fail
  have hls := lists_two' (H.out.below hB) (H'.out.below hB) hc hc'
  refine (great04_calls _ w4.heap.size 2 [rs, ss] hls (by simp)).mono ?_
  rintro e w6 ⟨t, rfl, ht, hB6⟩
  replace hB := Below.on (Below.alloc' hB _) hB6
  clear hls hB6
  cases t
  · have hk := ht rfl
    have hk1 : smallList rs := hk 0 (by simp)
    have hk2 : smallList ss := hk 1 (by simp)
    have KA := Lib.hid hk1.2
    have KB := Lib.hid hk2.2
    have hl30 := hk1.1
    have hl30' := hk2.1
    clear ht hk hk1 hk2
    by_cases hlen : rs.length = ss.length
    · have hlb : ((rs.length : Int) != (ss.length : Int)) = false := by simp [hlen]
      have HL := Lib.hid hlen
      clear hlen
      go_wp2_with fail
      refine (vcheck_calls _ _ _ rs (H.out.below hB) hc (HT.out.below hB) (fun i hi => ⟨Nat.le_trans (KA.out i hi).1 (by decide), Nat.le_trans (KA.out i hi).2 (by decide)⟩)).mono ?_
      rintro e w7 ⟨rfl, hB7⟩
      ((replace hB := Below.on (Below.on hB (by ((repeat (first | assumption | exact Below.refl _ _ | refine Below.drew ?_ | refine below_drewN ?_ _ | refine Below.alloc' ?_ _ | refine Below.setCell ?_ (by first | omega | (dsimp only; omega) | (simp; done) | (simp; omega)) _ | refine Below.alloc ?_ (by first | assumption | exact Nat.le_refl _ | omega | (simp; done) | (simp; omega)) _))))) hB7; have := Below.size hB))
      cases ho : allOk rs
      · go_wp2_with fail
        refine (alive04_calls _ (HT.out.below hB)).mono ?_
        rintro e w8 ⟨rfl, hB8⟩
        ((replace hB := Below.on (Below.on hB (by ((repeat (first | assumption | exact Below.refl _ _ | refine Below.drew ?_ | refine below_drewN ?_ _ | refine Below.alloc' ?_ _ | refine Below.setCell ?_ (by first | omega | (dsimp only; omega) | (simp; done) | (simp; omega)) _ | refine Below.alloc ?_ (by first | assumption | exact Nat.le_refl _ | omega | (simp; done) | (simp; omega)) _))))) hB8; have := Below.size hB))
        go_wp2_with fail
        go_ret
        exact ⟨rfl, hB⟩
      · go_wp2_with fail
        refine (vcheck_calls _ _ _ ss (H'.out.below hB) hc' (HT.out.below hB) (fun i hi => ⟨Nat.le_trans (KB.out i hi).1 (by decide), Nat.le_trans (KB.out i hi).2 (by decide)⟩)).mono ?_
        rintro e w8 ⟨rfl, hB8⟩
        ((replace hB := Below.on (Below.on hB (by ((repeat (first | assumption | exact Below.refl _ _ | refine Below.drew ?_ | refine below_drewN ?_ _ | refine Below.alloc' ?_ _ | refine Below.setCell ?_ (by first | omega | (dsimp only; omega) | (simp; done) | (simp; omega)) _ | refine Below.alloc ?_ (by first | assumption | exact Nat.le_refl _ | omega | (simp; done) | (simp; omega)) _))))) hB8; have := Below.size hB))
        cases ho' : allOk ss
        · go_wp2_with fail
          refine (alive04_calls _ (HT.out.below hB)).mono ?_
          rintro e w9 ⟨rfl, hB9⟩
          ((replace hB := Below.on (Below.on hB (by ((repeat (first | assumption | exact Below.refl _ _ | refine Below.drew ?_ | refine below_drewN ?_ _ | refine Below.alloc' ?_ _ | refine Below.setCell ?_ (by first | omega | (dsimp only; omega) | (simp; done) | (simp; omega)) _ | refine Below.alloc ?_ (by first | assumption | exact Nat.le_refl _ | omega | (simp; done) | (simp; omega)) _))))) hB9; have := Below.size hB))
          go_wp2_with fail
          go_ret
          exact ⟨rfl, hB⟩
        · obtain ⟨ps, hps⟩ : ∃ ps, ps = rs.map Raw.q := ⟨_, rfl⟩
          obtain ⟨qs, hqs⟩ : ∃ qs, qs = ss.map Raw.q := ⟨_, rfl⟩
          have V1 : Hid (VecOf B w8 (.slice A rs.length c) ps) := by rw [hps]; exact (H.out.below hB).vec hc ho
          have V2 : Hid (VecOf B w8 (.slice A' ss.length c') qs) := by rw [hqs]; exact (H'.out.below hB).vec hc' ho'
          have F1 : Hid (FitsAll 300 ps) := by rw [hps]; exact fits_map (fun i hi => H.out.small hi) KA.out (by decide)
          have F2 : Hid (FitsAll 300 qs) := by rw [hqs]; exact fits_map (fun i hi => H'.out.small hi) KB.out (by decide)
          have L1 : Hid (ps.length = rs.length) := by rw [hps]; exact List.length_map ..
          have L2 : Hid (ps.length = qs.length) := by rw [hps, hqs]; show _ = _; rw [List.length_map, List.length_map]; exact HL.out
          have hp30 : ps.length ≤ 30 := by have := L1.out; omega
          have hq30 : qs.length ≤ 30 := by have := L2.out; omega
          clear hps hqs KA KB H H' HL
          have hs8 := hB.size
          obtain ⟨x, hx⟩ : ∃ x, x = dotR ps qs := ⟨_, rfl⟩
          obtain ⟨s, hs⟩ : ∃ s, s = dotR ps ps := ⟨_, rfl⟩
          have FX : Hid (Fits 20000 x) := by rw [hx]; exact (fits_dotR F1.out F2.out L2.out).mono (by omega)
          have FS : Hid (Fits 20000 s) := by rw [hs]; exact (fits_dotR F1.out F1.out rfl).mono (by omega)
          have HX := Lib.hid hx
          have HS := Lib.hid hs
          clear hx hs
          go_wp2_with fail
          refine (dot_vec w8 _ _ _ _ 300 V1.out V2.out (HT.out.below hB) (by omega) F1.out F2.out (by decide) (by omega)).mono ?_
          rintro e w9 ⟨-, hd, hB9⟩
          obtain ⟨vd, rfl, hr⟩ := hd L2.out
          rw [← HX.out] at hr
          obtain ⟨A5, c5, A5', c5', rfl, -, -, -⟩ := hr.open
          have Q5 := Lib.hid hr
          clear hd hr
          (replace V1 := Lib.hid (VecOf.below (VecOf.below (Hid.out V1) (by ((repeat (first | assumption | exact Below.refl _ _ | refine Below.drew ?_ | refine below_drewN ?_ _ | refine Below.alloc' ?_ _ | refine Below.setCell ?_ (by first | omega | (dsimp only; omega) | (simp; done) | (simp; omega)) _ | refine Below.alloc ?_ (by first | assumption | exact Nat.le_refl _ | omega | (simp; done) | (simp; omega)) _))))) hB9))
          (replace V2 := Lib.hid (VecOf.below (VecOf.below (Hid.out V2) (by ((repeat (first | assumption | exact Below.refl _ _ | refine Below.drew ?_ | refine below_drewN ?_ _ | refine Below.alloc' ?_ _ | refine Below.setCell ?_ (by first | omega | (dsimp only; omega) | (simp; done) | (simp; omega)) _ | refine Below.alloc ?_ (by first | assumption | exact Nat.le_refl _ | omega | (simp; done) | (simp; omega)) _))))) hB9))
          ((replace hB := Below.on (Below.on hB (by ((repeat (first | assumption | exact Below.refl _ _ | refine Below.drew ?_ | refine below_drewN ?_ _ | refine Below.alloc' ?_ _ | refine Below.setCell ?_ (by first | omega | (dsimp only; omega) | (simp; done) | (simp; omega)) _ | refine Below.alloc ?_ (by first | assumption | exact Nat.le_refl _ | omega | (simp; done) | (simp; omega)) _))))) hB9; have := Below.size hB))
          go_wp2_with fail
          obtain ⟨wa, ha⟩ : ∃ wa, wa = w9.alloc (.cells #[.bool (decide (x.num < 0)), .slice A5 (digs x.num.natAbs).length c5, .slice A5' (digs x.den).length c5'] 36) := ⟨_, rfl⟩
          have X5 : Hid (Box wa w9.heap.size 36 #[.bool (decide (x.num < 0)), .slice A5 (digs x.num.natAbs).length c5, .slice A5' (digs x.den).length c5']) := by rw [ha]; exact Box.new _ _ _
          have hBa : Below w9.heap.size w9 wa := by rw [ha]; ((repeat (first | assumption | exact Below.refl _ _ | refine Below.drew ?_ | refine below_drewN ?_ _ | refine Below.alloc' ?_ _ | refine Below.setCell ?_ (by first | omega | (dsimp only; omega) | (simp; done) | (simp; omega)) _ | refine Below.alloc ?_ (by first | assumption | exact Nat.le_refl _ | omega | (simp; done) | (simp; omega)) _)))
          rw [← ha]
          clear ha
          (replace V1 := Lib.hid (VecOf.below (VecOf.below (Hid.out V1) (by ((repeat (first | assumption | exact Below.refl _ _ | refine Below.drew ?_ | refine below_drewN ?_ _ | refine Below.alloc' ?_ _ | refine Below.setCell ?_ (by first | omega | (dsimp only; omega) | (simp; done) | (simp; omega)) _ | refine Below.alloc ?_ (by first | assumption | exact Nat.le_refl _ | omega | (simp; done) | (simp; omega)) _))))) hBa))
          (replace V2 := Lib.hid (VecOf.below (VecOf.below (Hid.out V2) (by ((repeat (first | assumption | exact Below.refl _ _ | refine Below.drew ?_ | refine below_drewN ?_ _ | refine Below.alloc' ?_ _ | refine Below.setCell ?_ (by first | omega | (dsimp only; omega) | (simp; done) | (simp; omega)) _ | refine Below.alloc ?_ (by first | assumption | exact Nat.le_refl _ | omega | (simp; done) | (simp; omega)) _))))) hBa))
          (replace Q5 := Lib.hid (RawAt.below (RawAt.below (Hid.out Q5) (by ((repeat (first | assumption | exact Below.refl _ _ | refine Below.drew ?_ | refine below_drewN ?_ _ | refine Below.alloc' ?_ _ | refine Below.setCell ?_ (by first | omega | (dsimp only; omega) | (simp; done) | (simp; omega)) _ | refine Below.alloc ?_ (by first | assumption | exact Nat.le_refl _ | omega | (simp; done) | (simp; omega)) _))))) hBa))
          ((replace hB := Below.on (Below.on hB (by ((repeat (first | assumption | exact Below.refl _ _ | refine Below.drew ?_ | refine below_drewN ?_ _ | refine Below.alloc' ?_ _ | refine Below.setCell ?_ (by first | omega | (dsimp only; omega) | (simp; done) | (simp; omega)) _ | refine Below.alloc ?_ (by first | assumption | exact Nat.le_refl _ | omega | (simp; done) | (simp; omega)) _))))) hBa; have := Below.size hB))
          refine (dot_vec wa _ _ _ _ 300 V2.out V1.out (HT.out.below hB) (by omega) F2.out F1.out (by decide) (by omega)).mono ?_
          rintro e w10 ⟨-, hd, hB10⟩
          obtain ⟨vd, rfl, hr⟩ := hd L2.out.symm
          rw [← dotR_comm L2.out, ← HX.out] at hr
          obtain ⟨A7, c7, A7', c7', rfl, -, -, -⟩ := hr.open
          have Q7 := Lib.hid hr
          clear hd hr
          (replace V1 := Lib.hid (VecOf.below (VecOf.below (Hid.out V1) (by ((repeat (first | assumption | exact Below.refl _ _ | refine Below.drew ?_ | refine below_drewN ?_ _ | refine Below.alloc' ?_ _ | refine Below.setCell ?_ (by first | omega | (dsimp only; omega) | (simp; done) | (simp; omega)) _ | refine Below.alloc ?_ (by first | assumption | exact Nat.le_refl _ | omega | (simp; done) | (simp; omega)) _))))) hB10))
          (replace V2 := Lib.hid (VecOf.below (VecOf.below (Hid.out V2) (by ((repeat (first | assumption | exact Below.refl _ _ | refine Below.drew ?_ | refine below_drewN ?_ _ | refine Below.alloc' ?_ _ | refine Below.setCell ?_ (by first | omega | (dsimp only; omega) | (simp; done) | (simp; omega)) _ | refine Below.alloc ?_ (by first | assumption | exact Nat.le_refl _ | omega | (simp; done) | (simp; omega)) _))))) hB10))
          (replace Q5 := Lib.hid (RawAt.below (RawAt.below (Hid.out Q5) (by ((repeat (first | assumption | exact Below.refl _ _ | refine Below.drew ?_ | refine below_drewN ?_ _ | refine Below.alloc' ?_ _ | refine Below.setCell ?_ (by first | omega | (dsimp only; omega) | (simp; done) | (simp; omega)) _ | refine Below.alloc ?_ (by first | assumption | exact Nat.le_refl _ | omega | (simp; done) | (simp; omega)) _))))) hB10))
          replace X5 := Lib.hid (X5.out.below hB10)
          ((replace hB := Below.on (Below.on hB (by ((repeat (first | assumption | exact Below.refl _ _ | refine Below.drew ?_ | refine below_drewN ?_ _ | refine Below.alloc' ?_ _ | refine Below.setCell ?_ (by first | omega | (dsimp only; omega) | (simp; done) | (simp; omega)) _ | refine Below.alloc ?_ (by first | assumption | exact Nat.le_refl _ | omega | (simp; done) | (simp; omega)) _))))) hB10; have := Below.size hB))
          go_wp2_with fail
          obtain ⟨wb, hb⟩ : ∃ wb, wb = w10.alloc (.cells #[.bool (decide (x.num < 0)), .slice A7 (digs x.num.natAbs).length c7, .slice A7' (digs x.den).length c7'] 36) := ⟨_, rfl⟩
          have Xb : Hid (Box wb w10.heap.size 36 #[.bool (decide (x.num < 0)), .slice A7 (digs x.num.natAbs).length c7, .slice A7' (digs x.den).length c7']) := by rw [hb]; exact Box.new _ _ _
          have hBb : Below w10.heap.size w10 wb := by rw [hb]; ((repeat (first | assumption | exact Below.refl _ _ | refine Below.drew ?_ | refine below_drewN ?_ _ | refine Below.alloc' ?_ _ | refine Below.setCell ?_ (by first | omega | (dsimp only; omega) | (simp; done) | (simp; omega)) _ | refine Below.alloc ?_ (by first | assumption | exact Nat.le_refl _ | omega | (simp; done) | (simp; omega)) _)))
          rw [← hb]
          clear hb
          (replace V1 := Lib.hid (VecOf.below (VecOf.below (Hid.out V1) (by ((repeat (first | assumption | exact Below.refl _ _ | refine Below.drew ?_ | refine below_drewN ?_ _ | refine Below.alloc' ?_ _ | refine Below.setCell ?_ (by first | omega | (dsimp only; omega) | (simp; done) | (simp; omega)) _ | refine Below.alloc ?_ (by first | assumption | exact Nat.le_refl _ | omega | (simp; done) | (simp; omega)) _))))) hBb))
          (replace Q5 := Lib.hid (RawAt.below (RawAt.below (Hid.out Q5) (by ((repeat (first | assumption | exact Below.refl _ _ | refine Below.drew ?_ | refine below_drewN ?_ _ | refine Below.alloc' ?_ _ | refine Below.setCell ?_ (by first | omega | (dsimp only; omega) | (simp; done) | (simp; omega)) _ | refine Below.alloc ?_ (by first | assumption | exact Nat.le_refl _ | omega | (simp; done) | (simp; omega)) _))))) hBb))
          (replace Q7 := Lib.hid (RawAt.below (RawAt.below (Hid.out Q7) (by ((repeat (first | assumption | exact Below.refl _ _ | refine Below.drew ?_ | refine below_drewN ?_ _ | refine Below.alloc' ?_ _ | refine Below.setCell ?_ (by first | omega | (dsimp only; omega) | (simp; done) | (simp; omega)) _ | refine Below.alloc ?_ (by first | assumption | exact Nat.le_refl _ | omega | (simp; done) | (simp; omega)) _))))) hBb))
          replace X5 := Lib.hid (X5.out.below hBb)
          ((replace hB := Below.on (Below.on hB (by ((repeat (first | assumption | exact Below.refl _ _ | refine Below.drew ?_ | refine below_drewN ?_ _ | refine Below.alloc' ?_ _ | refine Below.setCell ?_ (by first | omega | (dsimp only; omega) | (simp; done) | (simp; omega)) _ | refine Below.alloc ?_ (by first | assumption | exact Nat.le_refl _ | omega | (simp; done) | (simp; omega)) _))))) hBb; have := Below.size hB))
          have hz := zero_calls wb (rs.length : Int) (by omega) (by omega)
          rw [Int.toNat_natCast, ← L1.out] at hz
          rw [← L1.out] at *
          refine Calls.mono hz ?_
          rintro e w11 ⟨vz, bz, rfl, hoz, hB11⟩
          have VZ : Hid (VecOf B w11 vz (List.replicate ps.length 0)) := hoz.vec (by rw [List.length_replicate]; omega) B
          clear hz hoz
          (replace V1 := Lib.hid (VecOf.below (VecOf.below (Hid.out V1) (by ((repeat (first | assumption | exact Below.refl _ _ | refine Below.drew ?_ | refine below_drewN ?_ _ | refine Below.alloc' ?_ _ | refine Below.setCell ?_ (by first | omega | (dsimp only; omega) | (simp; done) | (simp; omega)) _ | refine Below.alloc ?_ (by first | assumption | exact Nat.le_refl _ | omega | (simp; done) | (simp; omega)) _))))) hB11))
          (replace Q5 := Lib.hid (RawAt.below (RawAt.below (Hid.out Q5) (by ((repeat (first | assumption | exact Below.refl _ _ | refine Below.drew ?_ | refine below_drewN ?_ _ | refine Below.alloc' ?_ _ | refine Below.setCell ?_ (by first | omega | (dsimp only; omega) | (simp; done) | (simp; omega)) _ | refine Below.alloc ?_ (by first | assumption | exact Nat.le_refl _ | omega | (simp; done) | (simp; omega)) _))))) hB11))
          (replace Q7 := Lib.hid (RawAt.below (RawAt.below (Hid.out Q7) (by ((repeat (first | assumption | exact Below.refl _ _ | refine Below.drew ?_ | refine below_drewN ?_ _ | refine Below.alloc' ?_ _ | refine Below.setCell ?_ (by first | omega | (dsimp only; omega) | (simp; done) | (simp; omega)) _ | refine Below.alloc ?_ (by first | assumption | exact Nat.le_refl _ | omega | (simp; done) | (simp; omega)) _))))) hB11))
          replace X5 := Lib.hid (X5.out.below hB11)
          replace Xb := Lib.hid (Xb.out.below hB11)
          ((replace hB := Below.on (Below.on hB (by ((repeat (first | assumption | exact Below.refl _ _ | refine Below.drew ?_ | refine below_drewN ?_ _ | refine Below.alloc' ?_ _ | refine Below.setCell ?_ (by first | omega | (dsimp only; omega) | (simp; done) | (simp; omega)) _ | refine Below.alloc ?_ (by first | assumption | exact Nat.le_refl _ | omega | (simp; done) | (simp; omega)) _))))) hB11; have := Below.size hB))
          go_wp2_with fail
          refine (dot_vec w11 _ _ _ _ 300 V1.out VZ.out (HT.out.below hB) (by omega) F1.out ((fits_zeros _).mono (by decide)) (by decide) (by omega)).mono ?_
          rintro e w12 ⟨-, hd, hB12⟩
          obtain ⟨vd, rfl, hr⟩ := hd (by rw [List.length_replicate])
          obtain ⟨z, hz⟩ : ∃ z, z = dotR ps (List.replicate ps.length 0) := ⟨_, rfl⟩
          rw [← hz] at hr
          have HZ : Hid (z = 0) := by rw [hz]; exact dotR_zeros _ _
          obtain ⟨A9, c9, A9', c9', rfl, -, -, -⟩ := hr.open
          have Q9 := Lib.hid hr
          clear hd hr hz VZ
          (replace V1 := Lib.hid (VecOf.below (VecOf.below (Hid.out V1) (by ((repeat (first | assumption | exact Below.refl _ _ | refine Below.drew ?_ | refine below_drewN ?_ _ | refine Below.alloc' ?_ _ | refine Below.setCell ?_ (by first | omega | (dsimp only; omega) | (simp; done) | (simp; omega)) _ | refine Below.alloc ?_ (by first | assumption | exact Nat.le_refl _ | omega | (simp; done) | (simp; omega)) _))))) hB12))
          (replace Q5 := Lib.hid (RawAt.below (RawAt.below (Hid.out Q5) (by ((repeat (first | assumption | exact Below.refl _ _ | refine Below.drew ?_ | refine below_drewN ?_ _ | refine Below.alloc' ?_ _ | refine Below.setCell ?_ (by first | omega | (dsimp only; omega) | (simp; done) | (simp; omega)) _ | refine Below.alloc ?_ (by first | assumption | exact Nat.le_refl _ | omega | (simp; done) | (simp; omega)) _))))) hB12))
          (replace Q7 := Lib.hid (RawAt.below (RawAt.below (Hid.out Q7) (by ((repeat (first | assumption | exact Below.refl _ _ | refine Below.drew ?_ | refine below_drewN ?_ _ | refine Below.alloc' ?_ _ | refine Below.setCell ?_ (by first | omega | (dsimp only; omega) | (simp; done) | (simp; omega)) _ | refine Below.alloc ?_ (by first | assumption | exact Nat.le_refl _ | omega | (simp; done) | (simp; omega)) _))))) hB12))
          replace X5 := Lib.hid (X5.out.below hB12)
          replace Xb := Lib.hid (Xb.out.below hB12)
          ((replace hB := Below.on (Below.on hB (by ((repeat (first | assumption | exact Below.refl _ _ | refine Below.drew ?_ | refine below_drewN ?_ _ | refine Below.alloc' ?_ _ | refine Below.setCell ?_ (by first | omega | (dsimp only; omega) | (simp; done) | (simp; omega)) _ | refine Below.alloc ?_ (by first | assumption | exact Nat.le_refl _ | omega | (simp; done) | (simp; omega)) _))))) hB12; have := Below.size hB))
          go_wp2_with fail
          obtain ⟨wc, hc⟩ : ∃ wc, wc = w12.alloc (.cells #[.bool (decide (z.num < 0)), .slice A9 (digs z.num.natAbs).length c9, .slice A9' (digs z.den).length c9'] 36) := ⟨_, rfl⟩
          have Xc : Hid (Box wc w12.heap.size 36 #[.bool (decide (z.num < 0)), .slice A9 (digs z.num.natAbs).length c9, .slice A9' (digs z.den).length c9']) := by rw [hc]; exact Box.new _ _ _
          have hBc : Below w12.heap.size w12 wc := by rw [hc]; ((repeat (first | assumption | exact Below.refl _ _ | refine Below.drew ?_ | refine below_drewN ?_ _ | refine Below.alloc' ?_ _ | refine Below.setCell ?_ (by first | omega | (dsimp only; omega) | (simp; done) | (simp; omega)) _ | refine Below.alloc ?_ (by first | assumption | exact Nat.le_refl _ | omega | (simp; done) | (simp; omega)) _)))
          rw [← hc]
          clear hc
          (replace V1 := Lib.hid (VecOf.below (VecOf.below (Hid.out V1) (by ((repeat (first | assumption | exact Below.refl _ _ | refine Below.drew ?_ | refine below_drewN ?_ _ | refine Below.alloc' ?_ _ | refine Below.setCell ?_ (by first | omega | (dsimp only; omega) | (simp; done) | (simp; omega)) _ | refine Below.alloc ?_ (by first | assumption | exact Nat.le_refl _ | omega | (simp; done) | (simp; omega)) _))))) hBc))
          (replace Q5 := Lib.hid (RawAt.below (RawAt.below (Hid.out Q5) (by ((repeat (first | assumption | exact Below.refl _ _ | refine Below.drew ?_ | refine below_drewN ?_ _ | refine Below.alloc' ?_ _ | refine Below.setCell ?_ (by first | omega | (dsimp only; omega) | (simp; done) | (simp; omega)) _ | refine Below.alloc ?_ (by first | assumption | exact Nat.le_refl _ | omega | (simp; done) | (simp; omega)) _))))) hBc))
          (replace Q7 := Lib.hid (RawAt.below (RawAt.below (Hid.out Q7) (by ((repeat (first | assumption | exact Below.refl _ _ | refine Below.drew ?_ | refine below_drewN ?_ _ | refine Below.alloc' ?_ _ | refine Below.setCell ?_ (by first | omega | (dsimp only; omega) | (simp; done) | (simp; omega)) _ | refine Below.alloc ?_ (by first | assumption | exact Nat.le_refl _ | omega | (simp; done) | (simp; omega)) _))))) hBc))
          (replace Q9 := Lib.hid (RawAt.below (RawAt.below (Hid.out Q9) (by ((repeat (first | assumption | exact Below.refl _ _ | refine Below.drew ?_ | refine below_drewN ?_ _ | refine Below.alloc' ?_ _ | refine Below.setCell ?_ (by first | omega | (dsimp only; omega) | (simp; done) | (simp; omega)) _ | refine Below.alloc ?_ (by first | assumption | exact Nat.le_refl _ | omega | (simp; done) | (simp; omega)) _))))) hBc))
          replace X5 := Lib.hid (X5.out.below hBc)
          replace Xb := Lib.hid (Xb.out.below hBc)
          ((replace hB := Below.on (Below.on hB (by ((repeat (first | assumption | exact Below.refl _ _ | refine Below.drew ?_ | refine below_drewN ?_ _ | refine Below.alloc' ?_ _ | refine Below.setCell ?_ (by first | omega | (dsimp only; omega) | (simp; done) | (simp; omega)) _ | refine Below.alloc ?_ (by first | assumption | exact Nat.le_refl _ | omega | (simp; done) | (simp; omega)) _))))) hBc; have := Below.size hB))
          refine (dot_vec wc _ _ _ _ 300 V1.out V1.out (HT.out.below hB) (by omega) F1.out F1.out (by decide) (by omega)).mono ?_
          rintro e w13 ⟨-, hd, hB13⟩
          obtain ⟨vd, rfl, hr⟩ := hd rfl
          rw [← HS.out] at hr
          obtain ⟨AB, cB, AB', cB', rfl, -, -, -⟩ := hr.open
          have QB := Lib.hid hr
          clear hd hr
          (replace V1 := Lib.hid (VecOf.below (VecOf.below (Hid.out V1) (by ((repeat (first | assumption | exact Below.refl _ _ | refine Below.drew ?_ | refine below_drewN ?_ _ | refine Below.alloc' ?_ _ | refine Below.setCell ?_ (by first | omega | (dsimp only; omega) | (simp; done) | (simp; omega)) _ | refine Below.alloc ?_ (by first | assumption | exact Nat.le_refl _ | omega | (simp; done) | (simp; omega)) _))))) hB13))
          (replace Q5 := Lib.hid (RawAt.below (RawAt.below (Hid.out Q5) (by ((repeat (first | assumption | exact Below.refl _ _ | refine Below.drew ?_ | refine below_drewN ?_ _ | refine Below.alloc' ?_ _ | refine Below.setCell ?_ (by first | omega | (dsimp only; omega) | (simp; done) | (simp; omega)) _ | refine Below.alloc ?_ (by first | assumption | exact Nat.le_refl _ | omega | (simp; done) | (simp; omega)) _))))) hB13))
          (replace Q7 := Lib.hid (RawAt.below (RawAt.below (Hid.out Q7) (by ((repeat (first | assumption | exact Below.refl _ _ | refine Below.drew ?_ | refine below_drewN ?_ _ | refine Below.alloc' ?_ _ | refine Below.setCell ?_ (by first | omega | (dsimp only; omega) | (simp; done) | (simp; omega)) _ | refine Below.alloc ?_ (by first | assumption | exact Nat.le_refl _ | omega | (simp; done) | (simp; omega)) _))))) hB13))
          (replace Q9 := Lib.hid (RawAt.below (RawAt.below (Hid.out Q9) (by ((repeat (first | assumption | exact Below.refl _ _ | refine Below.drew ?_ | refine below_drewN ?_ _ | refine Below.alloc' ?_ _ | refine Below.setCell ?_ (by first | omega | (dsimp only; omega) | (simp; done) | (simp; omega)) _ | refine Below.alloc ?_ (by first | assumption | exact Nat.le_refl _ | omega | (simp; done) | (simp; omega)) _))))) hB13))
          replace X5 := Lib.hid (X5.out.below hB13)
          replace Xb := Lib.hid (Xb.out.below hB13)
          replace Xc := Lib.hid (Xc.out.below hB13)
          ((replace hB := Below.on (Below.on hB (by ((repeat (first | assumption | exact Below.refl _ _ | refine Below.drew ?_ | refine below_drewN ?_ _ | refine Below.alloc' ?_ _ | refine Below.setCell ?_ (by first | omega | (dsimp only; omega) | (simp; done) | (simp; omega)) _ | refine Below.alloc ?_ (by first | assumption | exact Nat.le_refl _ | omega | (simp; done) | (simp; omega)) _))))) hB13; have := Below.size hB))
          obtain ⟨_, _, _⟩ := Box.three_alloc X5.out
          obtain ⟨_, _, _⟩ := Box.three_alloc Xb.out
          have := X5.out.lt
          have := Xb.out.lt
          go_wp2_with fail
          obtain ⟨wd, hd⟩ : ∃ wd, wd = w13.alloc (.cells #[.bool (decide (s.num < 0)), .slice AB (digs s.num.natAbs).length cB, .slice AB' (digs s.den).length cB'] 36) := ⟨_, rfl⟩
          have Xd : Hid (Box wd w13.heap.size 36 #[.bool (decide (s.num < 0)), .slice AB (digs s.num.natAbs).length cB, .slice AB' (digs s.den).length cB']) := by rw [hd]; exact Box.new _ _ _
          have hBd : Below w13.heap.size w13 wd := by rw [hd]; ((repeat (first | assumption | exact Below.refl _ _ | refine Below.drew ?_ | refine below_drewN ?_ _ | refine Below.alloc' ?_ _ | refine Below.setCell ?_ (by first | omega | (dsimp only; omega) | (simp; done) | (simp; omega)) _ | refine Below.alloc ?_ (by first | assumption | exact Nat.le_refl _ | omega | (simp; done) | (simp; omega)) _)))
          clear V2
          (replace V1 := Lib.hid (VecOf.below (VecOf.below (Hid.out V1) (by ((repeat (first | assumption | exact Below.refl _ _ | refine Below.drew ?_ | refine below_drewN ?_ _ | refine Below.alloc' ?_ _ | refine Below.setCell ?_ (by first | omega | (dsimp only; omega) | (simp; done) | (simp; omega)) _ | refine Below.alloc ?_ (by first | assumption | exact Nat.le_refl _ | omega | (simp; done) | (simp; omega)) _))))) hBd))
          (replace Q5 := Lib.hid (RawAt.below (RawAt.below (Hid.out Q5) (by ((repeat (first | assumption | exact Below.refl _ _ | refine Below.drew ?_ | refine below_drewN ?_ _ | refine Below.alloc' ?_ _ | refine Below.setCell ?_ (by first | omega | (dsimp only; omega) | (simp; done) | (simp; omega)) _ | refine Below.alloc ?_ (by first | assumption | exact Nat.le_refl _ | omega | (simp; done) | (simp; omega)) _))))) hBd))
          (replace Q7 := Lib.hid (RawAt.below (RawAt.below (Hid.out Q7) (by ((repeat (first | assumption | exact Below.refl _ _ | refine Below.drew ?_ | refine below_drewN ?_ _ | refine Below.alloc' ?_ _ | refine Below.setCell ?_ (by first | omega | (dsimp only; omega) | (simp; done) | (simp; omega)) _ | refine Below.alloc ?_ (by first | assumption | exact Nat.le_refl _ | omega | (simp; done) | (simp; omega)) _))))) hBd))
          (replace Q9 := Lib.hid (RawAt.below (RawAt.below (Hid.out Q9) (by ((repeat (first | assumption | exact Below.refl _ _ | refine Below.drew ?_ | refine below_drewN ?_ _ | refine Below.alloc' ?_ _ | refine Below.setCell ?_ (by first | omega | (dsimp only; omega) | (simp; done) | (simp; omega)) _ | refine Below.alloc ?_ (by first | assumption | exact Nat.le_refl _ | omega | (simp; done) | (simp; omega)) _))))) hBd))
          (replace QB := Lib.hid (RawAt.below (RawAt.below (Hid.out QB) (by ((repeat (first | assumption | exact Below.refl _ _ | refine Below.drew ?_ | refine below_drewN ?_ _ | refine Below.alloc' ?_ _ | refine Below.setCell ?_ (by first | omega | (dsimp only; omega) | (simp; done) | (simp; omega)) _ | refine Below.alloc ?_ (by first | assumption | exact Nat.le_refl _ | omega | (simp; done) | (simp; omega)) _))))) hBd))
          replace X5 := Lib.hid (X5.out.below hBd)
          replace Xb := Lib.hid (Xb.out.below hBd)
          replace Xc := Lib.hid (Xc.out.below hBd)
          ((replace hB := Below.on (Below.on hB (by ((repeat (first | assumption | exact Below.refl _ _ | refine Below.drew ?_ | refine below_drewN ?_ _ | refine Below.alloc' ?_ _ | refine Below.setCell ?_ (by first | omega | (dsimp only; omega) | (simp; done) | (simp; omega)) _ | refine Below.alloc ?_ (by first | assumption | exact Nat.le_refl _ | omega | (simp; done) | (simp; omega)) _))))) hBd; have := Below.size hB))
          (((try clear X5c1 X5c2 X5c3 X5c4 X5c5 X5c6); obtain ⟨X5c1, X5c2, X5c3, X5c4, X5c5, X5c6⟩ := Box.three (Hid.out X5)))
          (((try clear Xbc1 Xbc2 Xbc3 Xbc4 Xbc5 Xbc6); obtain ⟨Xbc1, Xbc2, Xbc3, Xbc4, Xbc5, Xbc6⟩ := Box.three (Hid.out Xb)))
          (((try clear Xcc1 Xcc2 Xcc3 Xcc4 Xcc5 Xcc6); obtain ⟨Xcc1, Xcc2, Xcc3, Xcc4, Xcc5, Xcc6⟩ := Box.three (Hid.out Xc)))
          (((try clear Xdc1 Xdc2 Xdc3 Xdc4 Xdc5 Xdc6); obtain ⟨Xdc1, Xdc2, Xdc3, Xdc4, Xdc5, Xdc6⟩ := Box.three (Hid.out Xd)))
          have e1 : (sgn z.num == 0) = true := by rw [HZ.out]; rfl
          have e2 : (0 : Int) ≤ sgn s.num := sgn_ge (by rw [Rat.num_nonneg, HS.out]; exact dotR_self_nonneg ps)
          have e2d : decide ((0 : Int) ≤ sgn s.num) = true := decide_eq_true e2
          have hz1 : (rawOf z).xs.length + (rawOf z).ys.length ≤ 8796093022000 := by rw [HZ.out]; decide +kernel
          have hz2 : (rawOf s).xs.length + (rawOf s).ys.length ≤ 8796093022000 := by have h1 := FS.out.1; have h2 := FS.out.2; show (digs _).length + (digs _).length ≤ _; omega
          have T9 : ∀ w', Below w.heap.size w w' → Tab w' := fun w' hb => HT.out.below hb
          have hEq : (sgn s.num == 0) = decide (ps = List.replicate ps.length 0) := by
            rw [Bool.eq_iff_iff, decide_eq_true_eq, beq_iff_eq, sgn_zero_iff, Rat.num_eq_zero, HS.out]
            exact dotR_self_zero ps
          have HEQ := Lib.hid hEq
          have HZ1 := Lib.hid hz1
          have HZ2 := Lib.hid hz2
          clear hEq e2 hz1 hz2
          rw [← hd]
          clear hd
          refine (samerat_calls _ _ _ x Q5.out Q7.out).mono ?_
          rintro e w14 ⟨rfl, hB14⟩
          ((replace Xc := Lib.hid (Box.below (Box.below (Hid.out Xc) (by ((repeat (first | assumption | exact Below.refl _ _ | refine Below.drew ?_ | refine below_drewN ?_ _ | refine Below.alloc' ?_ _ | refine Below.setCell ?_ (by first | omega | (dsimp only; omega) | (simp; done) | (simp; omega)) _ | refine Below.alloc ?_ (by first | assumption | exact Nat.le_refl _ | omega | (simp; done) | (simp; omega)) _))))) hB14); (try clear Xcc1 Xcc2 Xcc3 Xcc4 Xcc5 Xcc6); obtain ⟨Xcc1, Xcc2, Xcc3, Xcc4, Xcc5, Xcc6⟩ := Box.three (Hid.out Xc); have := Box.lt (Hid.out Xc)))
          ((replace Xd := Lib.hid (Box.below (Box.below (Hid.out Xd) (by ((repeat (first | assumption | exact Below.refl _ _ | refine Below.drew ?_ | refine below_drewN ?_ _ | refine Below.alloc' ?_ _ | refine Below.setCell ?_ (by first | omega | (dsimp only; omega) | (simp; done) | (simp; omega)) _ | refine Below.alloc ?_ (by first | assumption | exact Nat.le_refl _ | omega | (simp; done) | (simp; omega)) _))))) hB14); (try clear Xdc1 Xdc2 Xdc3 Xdc4 Xdc5 Xdc6); obtain ⟨Xdc1, Xdc2, Xdc3, Xdc4, Xdc5, Xdc6⟩ := Box.three (Hid.out Xd); have := Box.lt (Hid.out Xd)))
          (replace V1 := Lib.hid (VecOf.below (VecOf.below (Hid.out V1) (by ((repeat (first | assumption | exact Below.refl _ _ | refine Below.drew ?_ | refine below_drewN ?_ _ | refine Below.alloc' ?_ _ | refine Below.setCell ?_ (by first | omega | (dsimp only; omega) | (simp; done) | (simp; omega)) _ | refine Below.alloc ?_ (by first | assumption | exact Nat.le_refl _ | omega | (simp; done) | (simp; omega)) _))))) hB14))
          (replace Q9 := Lib.hid (RawAt.below (RawAt.below (Hid.out Q9) (by ((repeat (first | assumption | exact Below.refl _ _ | refine Below.drew ?_ | refine below_drewN ?_ _ | refine Below.alloc' ?_ _ | refine Below.setCell ?_ (by first | omega | (dsimp only; omega) | (simp; done) | (simp; omega)) _ | refine Below.alloc ?_ (by first | assumption | exact Nat.le_refl _ | omega | (simp; done) | (simp; omega)) _))))) hB14))
          (replace QB := Lib.hid (RawAt.below (RawAt.below (Hid.out QB) (by ((repeat (first | assumption | exact Below.refl _ _ | refine Below.drew ?_ | refine below_drewN ?_ _ | refine Below.alloc' ?_ _ | refine Below.setCell ?_ (by first | omega | (dsimp only; omega) | (simp; done) | (simp; omega)) _ | refine Below.alloc ?_ (by first | assumption | exact Nat.le_refl _ | omega | (simp; done) | (simp; omega)) _))))) hB14))
          clear X5c1 X5c2 X5c3 X5c4 X5c5 X5c6 Xbc1 Xbc2 Xbc3 Xbc4 Xbc5 Xbc6 X5 Xb Q5 Q7
          ((replace hB := Below.on (Below.on hB (by ((repeat (first | assumption | exact Below.refl _ _ | refine Below.drew ?_ | refine below_drewN ?_ _ | refine Below.alloc' ?_ _ | refine Below.setCell ?_ (by first | omega | (dsimp only; omega) | (simp; done) | (simp; omega)) _ | refine Below.alloc ?_ (by first | assumption | exact Nat.le_refl _ | omega | (simp; done) | (simp; omega)) _))))) hB14; have := Below.size hB))
          go_wp2_with fail
          have hsg := rsign_calls _ _ (rawOf z) Q9.out (T9 _ hB) HZ1.out (by omega)
          rw [rawOf_q] at hsg
          refine Calls.mono hsg ?_
          rintro e w15 ⟨rfl, hB15⟩
          clear hsg
          ((replace Xd := Lib.hid (Box.below (Box.below (Hid.out Xd) (by ((repeat (first | assumption | exact Below.refl _ _ | refine Below.drew ?_ | refine below_drewN ?_ _ | refine Below.alloc' ?_ _ | refine Below.setCell ?_ (by first | omega | (dsimp only; omega) | (simp; done) | (simp; omega)) _ | refine Below.alloc ?_ (by first | assumption | exact Nat.le_refl _ | omega | (simp; done) | (simp; omega)) _))))) hB15); (try clear Xdc1 Xdc2 Xdc3 Xdc4 Xdc5 Xdc6); obtain ⟨Xdc1, Xdc2, Xdc3, Xdc4, Xdc5, Xdc6⟩ := Box.three (Hid.out Xd); have := Box.lt (Hid.out Xd)))
          (replace V1 := Lib.hid (VecOf.below (VecOf.below (Hid.out V1) (by ((repeat (first | assumption | exact Below.refl _ _ | refine Below.drew ?_ | refine below_drewN ?_ _ | refine Below.alloc' ?_ _ | refine Below.setCell ?_ (by first | omega | (dsimp only; omega) | (simp; done) | (simp; omega)) _ | refine Below.alloc ?_ (by first | assumption | exact Nat.le_refl _ | omega | (simp; done) | (simp; omega)) _))))) hB15))
          (replace QB := Lib.hid (RawAt.below (RawAt.below (Hid.out QB) (by ((repeat (first | assumption | exact Below.refl _ _ | refine Below.drew ?_ | refine below_drewN ?_ _ | refine Below.alloc' ?_ _ | refine Below.setCell ?_ (by first | omega | (dsimp only; omega) | (simp; done) | (simp; omega)) _ | refine Below.alloc ?_ (by first | assumption | exact Nat.le_refl _ | omega | (simp; done) | (simp; omega)) _))))) hB15))
          ((replace hB := Below.on (Below.on hB (by ((repeat (first | assumption | exact Below.refl _ _ | refine Below.drew ?_ | refine below_drewN ?_ _ | refine Below.alloc' ?_ _ | refine Below.setCell ?_ (by first | omega | (dsimp only; omega) | (simp; done) | (simp; omega)) _ | refine Below.alloc ?_ (by first | assumption | exact Nat.le_refl _ | omega | (simp; done) | (simp; omega)) _))))) hB15; have := Below.size hB))
          go_wp2_with fail
          have hsg := rsign_calls _ _ (rawOf s) QB.out (T9 _ hB) HZ2.out (by omega)
          rw [rawOf_q] at hsg
          refine Calls.mono hsg ?_
          rintro e w16 ⟨rfl, hB16⟩
          clear hsg
          ((replace Xd := Lib.hid (Box.below (Box.below (Hid.out Xd) (by ((repeat (first | assumption | exact Below.refl _ _ | refine Below.drew ?_ | refine below_drewN ?_ _ | refine Below.alloc' ?_ _ | refine Below.setCell ?_ (by first | omega | (dsimp only; omega) | (simp; done) | (simp; omega)) _ | refine Below.alloc ?_ (by first | assumption | exact Nat.le_refl _ | omega | (simp; done) | (simp; omega)) _))))) hB16); (try clear Xdc1 Xdc2 Xdc3 Xdc4 Xdc5 Xdc6); obtain ⟨Xdc1, Xdc2, Xdc3, Xdc4, Xdc5, Xdc6⟩ := Box.three (Hid.out Xd); have := Box.lt (Hid.out Xd)))
          (replace V1 := Lib.hid (VecOf.below (VecOf.below (Hid.out V1) (by ((repeat (first | assumption | exact Below.refl _ _ | refine Below.drew ?_ | refine below_drewN ?_ _ | refine Below.alloc' ?_ _ | refine Below.setCell ?_ (by first | omega | (dsimp only; omega) | (simp; done) | (simp; omega)) _ | refine Below.alloc ?_ (by first | assumption | exact Nat.le_refl _ | omega | (simp; done) | (simp; omega)) _))))) hB16))
          (replace QB := Lib.hid (RawAt.below (RawAt.below (Hid.out QB) (by ((repeat (first | assumption | exact Below.refl _ _ | refine Below.drew ?_ | refine below_drewN ?_ _ | refine Below.alloc' ?_ _ | refine Below.setCell ?_ (by first | omega | (dsimp only; omega) | (simp; done) | (simp; omega)) _ | refine Below.alloc ?_ (by first | assumption | exact Nat.le_refl _ | omega | (simp; done) | (simp; omega)) _))))) hB16))
          ((replace hB := Below.on (Below.on hB (by ((repeat (first | assumption | exact Below.refl _ _ | refine Below.drew ?_ | refine below_drewN ?_ _ | refine Below.alloc' ?_ _ | refine Below.setCell ?_ (by first | omega | (dsimp only; omega) | (simp; done) | (simp; omega)) _ | refine Below.alloc ?_ (by first | assumption | exact Nat.le_refl _ | omega | (simp; done) | (simp; omega)) _))))) hB16; have := Below.size hB))
          go_wp2_with fail
          have hsg := rsign_calls _ _ (rawOf s) QB.out (T9 _ hB) HZ2.out (by omega)
          rw [rawOf_q] at hsg
          refine Calls.mono hsg ?_
          rintro e w17 ⟨rfl, hB17⟩
          clear hsg
          (replace V1 := Lib.hid (VecOf.below (VecOf.below (Hid.out V1) (by ((repeat (first | assumption | exact Below.refl _ _ | refine Below.drew ?_ | refine below_drewN ?_ _ | refine Below.alloc' ?_ _ | refine Below.setCell ?_ (by first | omega | (dsimp only; omega) | (simp; done) | (simp; omega)) _ | refine Below.alloc ?_ (by first | assumption | exact Nat.le_refl _ | omega | (simp; done) | (simp; omega)) _))))) hB17))
          ((replace hB := Below.on (Below.on hB (by ((repeat (first | assumption | exact Below.refl _ _ | refine Below.drew ?_ | refine below_drewN ?_ _ | refine Below.alloc' ?_ _ | refine Below.setCell ?_ (by first | omega | (dsimp only; omega) | (simp; done) | (simp; omega)) _ | refine Below.alloc ?_ (by first | assumption | exact Nat.le_refl _ | omega | (simp; done) | (simp; omega)) _))))) hB17; have := Below.size hB))
          go_wp2_with fail
          have hz := zero_calls w17 (ps.length : Int) (by omega) (by omega)
          rw [Int.toNat_natCast] at hz
          refine Calls.mono hz ?_
          rintro e w18 ⟨vz, bz, rfl, hoz, hB18⟩
          have VZ : Hid (VecOf B w18 vz (List.replicate ps.length 0)) := hoz.vec (by rw [List.length_replicate]; omega) B
          clear hz hoz
          (replace V1 := Lib.hid (VecOf.below (VecOf.below (Hid.out V1) (by ((repeat (first | assumption | exact Below.refl _ _ | refine Below.drew ?_ | refine below_drewN ?_ _ | refine Below.alloc' ?_ _ | refine Below.setCell ?_ (by first | omega | (dsimp only; omega) | (simp; done) | (simp; omega)) _ | refine Below.alloc ?_ (by first | assumption | exact Nat.le_refl _ | omega | (simp; done) | (simp; omega)) _))))) hB18))
          ((replace hB := Below.on (Below.on hB (by ((repeat (first | assumption | exact Below.refl _ _ | refine Below.drew ?_ | refine below_drewN ?_ _ | refine Below.alloc' ?_ _ | refine Below.setCell ?_ (by first | omega | (dsimp only; omega) | (simp; done) | (simp; omega)) _ | refine Below.alloc ?_ (by first | assumption | exact Nat.le_refl _ | omega | (simp; done) | (simp; omega)) _))))) hB18; have := Below.size hB))
          go_wp2_with fail
          refine (same_vec _ _ _ _ _ 300 V1.out VZ.out (T9 _ hB) (by omega) F1.out ((fits_zeros _).mono (by decide)) (by decide) (by decide)).mono ?_
          rw [← HEQ.out]
          rintro e w19 ⟨rfl, hB19⟩
          ((replace hB := Below.on (Below.on hB (by ((repeat (first | assumption | exact Below.refl _ _ | refine Below.drew ?_ | refine below_drewN ?_ _ | refine Below.alloc' ?_ _ | refine Below.setCell ?_ (by first | omega | (dsimp only; omega) | (simp; done) | (simp; omega)) _ | refine Below.alloc ?_ (by first | assumption | exact Nat.le_refl _ | omega | (simp; done) | (simp; omega)) _))))) hB19; have := Below.size hB))
          go_wp2_with fail
          go_ret
          exact ⟨by simp, hB⟩
    · have hlb : ((rs.length : Int) != (ss.length : Int)) = true := by rw [bne_iff_ne]; omega
      go_wp2_with fail
      refine (alive04_calls _ (HT.out.below hB)).mono ?_
      rintro e w8 ⟨rfl, hB8⟩
      ((replace hB := Below.on (Below.on hB (by ((repeat (first | assumption | exact Below.refl _ _ | refine Below.drew ?_ | refine below_drewN ?_ _ | refine Below.alloc' ?_ _ | refine Below.setCell ?_ (by first | omega | (dsimp only; omega) | (simp; done) | (simp; omega)) _ | refine Below.alloc ?_ (by first | assumption | exact Nat.le_refl _ | omega | (simp; done) | (simp; omega)) _))))) hB8; have := Below.size hB))
      go_wp2_with fail
      go_ret
      exact ⟨rfl, hB⟩
  · go_wp2_with fail
    refine (alive04_calls _ (HT.out.below hB)).mono ?_
    rintro e w8 ⟨rfl, hB8⟩
    ((replace hB := Below.on (Below.on hB (by ((repeat (first | assumption | exact Below.refl _ _ | refine Below.drew ?_ | refine below_drewN ?_ _ | refine Below.alloc' ?_ _ | refine Below.setCell ?_ (by first | omega | (dsimp only; omega) | (simp; done) | (simp; omega)) _ | refine Below.alloc ?_ (by first | assumption | exact Nat.le_refl _ | omega | (simp; done) | (simp; omega)) _))))) hB8; have := Below.size hB))
    go_wp2_with fail
    go_ret
    exact ⟨rfl, hB⟩

end Go.Proofs.YthofbikhomnjpaaGreatDoor
