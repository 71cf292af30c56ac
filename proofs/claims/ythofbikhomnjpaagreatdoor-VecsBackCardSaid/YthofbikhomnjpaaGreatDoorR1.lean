import Derived.Test.YthofbikhomnjpaaGreatDoorI7
import Derived.Test.YthofbikhomnjpaaGreatDoorPure5
import Derived.Test.YthofbikhomnjpaaGreatDoorN11
import Derived.Test.YthofbikhomnjpaaGreatDoorN12
namespace Go.Proofs.YthofbikhomnjpaaGreatDoor
open Go.RowKit
set_option linter.unusedVariables false
set_option linter.unusedSimpArgs false

/-- A fraction that lies somewhere: any parts. -/
def RawAt (B : Nat) (w : World) (v : Value) (r : Raw) : Prop := ∃ A c A' c', v = .agg #[.bool r.neg, .slice A r.xs.length c, .slice A' r.ys.length c'] ∧ r.xs.length ≤ c ∧ r.ys.length ≤ c' ∧ PartsAt B w A r.xs ∧ PartsAt B w A' r.ys
theorem RawAt.below {B : Nat} {w w' : World} {v : Value} {r : Raw} (h : RawAt B w v r) (hb : Below w.heap.size w w') : RawAt B w' v r := by
  obtain ⟨A, c, A', c', h1, h2, h3, h4, h5⟩ := h
  exact ⟨A, c, A', c', h1, h2, h3, h4.below hb, h5.below hb⟩
theorem RawAt.mono {B B' : Nat} {w : World} {v : Value} {r : Raw} (h : RawAt B w v r) (hB : B ≤ B') : RawAt B' w v r := by
  obtain ⟨A, c, A', c', h1, h2, h3, h4, h5⟩ := h
  exact ⟨A, c, A', c', h1, h2, h3, h4.mono hB, h5.mono hB⟩
theorem RawAt.set {B : Nat} {w : World} {v : Value} {r : Raw} (h : RawAt B w v r) {g : Nat} {t : TypeId} {cs : Array Value} (hx : Box w g t cs) (ht : t ≠ 62) (hg : B ≤ g) (i : Nat) (u : Value) : RawAt B (w.setCell ⟨g, i, none⟩ u) v r := by
  obtain ⟨A, c, A', c', h1, h2, h3, h4, h5⟩ := h
  exact ⟨A, c, A', c', h1, h2, h3, h4.set hx ht hg i u, h5.set hx ht hg i u⟩
theorem RawAt.set3 {B : Nat} {w : World} {v : Value} {r : Raw} (h : RawAt B w v r) {g : Nat} {t : TypeId} {cs : Array Value} (hx : Box w g t cs) (ht : t ≠ 62) (hg : B ≤ g) (a b c : Value) : RawAt B (((w.setCell ⟨g, 0, none⟩ a).setCell ⟨g, 1, none⟩ b).setCell ⟨g, 2, none⟩ c) v r :=
  ((h.set hx ht hg 0 a).set (hx.set 0 a) ht hg 1 b).set ((hx.set 0 a).set 1 b) ht hg 2 c
theorem RawAt.small {B : Nat} {w : World} {v : Value} {r : Raw} (h : RawAt B w v r) : r.small := by
  obtain ⟨A, c, A', c', h1, h2, h3, h4, h5⟩ := h
  exact ⟨h4.1.1, h5.1.1⟩
theorem RawAt.of_ok {B : Nat} {w : World} {v : Value} {r : Raw} (h : RawAt B w v r) (ho : r.ok = true) : RawAt B w v (rawOf r.q) := by rw [← Raw.eq_rawOf h.small ho]; exact h
/-- What a fraction's value looks like, with its parts. -/
theorem RawAt.open {B : Nat} {w : World} {v : Value} {q : Rat} (h : RawAt B w v (rawOf q)) : ∃ A c A' c', v = .agg #[.bool (decide (q.num < 0)), .slice A (digs q.num.natAbs).length c, .slice A' (digs q.den).length c'] ∧ RInt B w (.agg #[.bool (decide (q.num < 0)), .slice A (digs q.num.natAbs).length c]) q.num ∧ (digs q.den).length ≤ c' ∧ PartsAt B w A' (digs q.den) := by
  obtain ⟨A, c, A', c', h1, h2, h3, h4, h5⟩ := h
  exact ⟨A, c, A', c', h1, ⟨A, c, rfl, h2, h4⟩, h3, h5⟩
/-- A fraction in memory of its own. -/
def OwnQ (w : World) (v : Value) (q : Rat) (bs : List Nat) : Prop := ∃ s s' b1 b2, v = .agg #[.bool (decide (q.num < 0)), s, s'] ∧ bs = b1 ++ b2 ∧ Own w s q.num.natAbs b1 ∧ Own w s' q.den b2
theorem OwnQ.below {w w' : World} {v : Value} {q : Rat} {bs : List Nat} (h : OwnQ w v q bs) (hb : Below w.heap.size w w') : OwnQ w' v q bs := by
  obtain ⟨s, s', b1, b2, h1, h2, h3, h4⟩ := h
  exact ⟨s, s', b1, b2, h1, h2, h3.below hb, h4.below hb⟩
theorem OwnQ.set {w : World} {v : Value} {q : Rat} {bs : List Nat} (h : OwnQ w v q bs) {g : Nat} {t : TypeId} {cs : Array Value} (hx : Box w g t cs) (ht : t ≠ 62) (i : Nat) (u : Value) : OwnQ (w.setCell ⟨g, i, none⟩ u) v q bs := by
  obtain ⟨s, s', b1, b2, h1, h2, h3, h4⟩ := h
  exact ⟨s, s', b1, b2, h1, h2, h3.set hx ht i u, h4.set hx ht i u⟩
theorem OwnQ.set3 {w : World} {v : Value} {q : Rat} {bs : List Nat} (h : OwnQ w v q bs) {g : Nat} {t : TypeId} {cs : Array Value} (hx : Box w g t cs) (ht : t ≠ 62) (a b c : Value) : OwnQ (((w.setCell ⟨g, 0, none⟩ a).setCell ⟨g, 1, none⟩ b).setCell ⟨g, 2, none⟩ c) v q bs :=
  ((h.set hx ht 0 a).set (hx.set 0 a) ht 1 b).set ((hx.set 0 a).set 1 b) ht 2 c
theorem OwnQ.reads {w : World} {v : Value} {q : Rat} {bs : List Nat} (h : OwnQ w v q bs) (B : Nat) : RawAt B w v (rawOf q) := by
  obtain ⟨s, s', b1, b2, rfl, h2, h3, h4⟩ := h
  obtain ⟨A, c, rfl, hc, hp⟩ := h3.readsAt B
  obtain ⟨A', c', rfl, hc', hp'⟩ := h4.readsAt B
  exact ⟨A, c, A', c', rfl, hc, hc', hp, hp'⟩

theorem is1_calls (w : World) (A : Option Addr) (c : Nat) (xs : List Nat) (h : Parts w A xs) :
    Calls Tryz.prog 53 #[.slice A xs.length c] w fun e w' => e = .returned (.bool (decide (xs = [1]))) ∧ w' = w := by
  obtain ⟨hs, hl, h⟩ := h
  by_cases h0 : xs.length = 1
  · obtain ⟨x, rfl⟩ := List.length_eq_one_iff.1 h0
    obtain ⟨b, o, rfl, hc⟩ := h (by simp)
    have hg := hc 0 (by simp)
    have hx : el [x] 0 = x := rfl
    rw [hx, Nat.add_zero] at hg
    clear hc h hs h0 hx
    go_enter Tryz.func53, Tryz.ntmps53
    go_wp2
    go_ret
    refine ⟨?_, rfl⟩
    show Ending.returned (.bool ((x : Int) == 1)) = _
    refine ret_eq ?_
    congr 1
    rw [Bool.eq_iff_iff]
    simp
    omega
  · have hb : ((xs.length : Int) == 1) = false := beq_eq_false_iff_ne.2 (by omega)
    have hn : decide (xs = [1]) = false := decide_eq_false (fun e => h0 (by rw [e]; rfl))
    rw [hn]
    clear h hs hn
    go_enter Tryz.func53, Tryz.ntmps53
    go_wp2
    go_ret
    exact ⟨rfl, rfl⟩

theorem digs_one (n : Nat) : decide (digs n = [1]) = decide (n = 1) := by
  rw [decide_eq_decide]
  constructor
  · intro h
    have := val_digs n
    rw [h] at this
    exact this.symm
  · rintro rfl
    rw [digs_pos (by decide)]
    have : 1 / 4294967296 = 0 := rfl
    rw [this, digs_zero]

set_option maxRecDepth 100000 in
set_option maxHeartbeats 4000000 in
theorem rcheck_calls (w : World) (v : Value) (r : Raw) {B : Nat} (h : RawAt B w v r) (hT : Tab w) (hsz : r.xs.length + r.ys.length ≤ 8796093022000) :
    Calls Tryz.prog 21 #[v] w fun e w' => e = .returned (.bool r.ok) ∧ Below w.heap.size w w' := by
  obtain ⟨A, c, A', c', rfl, hc, hc', hp, hp'⟩ := h
  obtain ⟨neg, xs, ys⟩ := r
  dsimp only at *
  have HP := Lib.hid hp
  have HP' := Lib.hid hp'
  have HT := Lib.hid hT
  clear hp hp' hT
  have hl' := HP'.out.1.2.1
  obtain ⟨w3, h3, hB, b0⟩ := boxes1 w 36 #[.bool neg, .slice A xs.length c, .slice A' ys.length c']
  have H3 := Lib.hid h3
  have B0 := Lib.hid b0
  clear h3 b0
  obtain ⟨ok, hok⟩ : ∃ ok, ok = Raw.ok ⟨neg, xs, ys⟩ := ⟨_, rfl⟩
  rw [← hok]
  have HOK := Lib.hid hok
  clear hok
  go_enter Tryz.func21, Tryz.ntmps21
  go_wp2_with fail
  rw [← H3.out]
  refine (icheck_calls _ _ _ _ xs (HP.out.1.below hB)).mono ?_
  rintro e w4 ⟨rfl, hB4⟩
  ((replace B0 := Lib.hid (Box.below (Box.below (Hid.out B0) (by ((repeat (first | assumption | exact Below.refl _ _ | refine Below.drew ?_ | refine below_drewN ?_ _ | refine Below.alloc' ?_ _ | refine Below.setCell ?_ (by first | omega | (dsimp only; omega) | (simp; done) | (simp; omega)) _ | refine Below.alloc ?_ (by first | assumption | exact Nat.le_refl _ | omega | (simp; done) | (simp; omega)) _))))) hB4); (try clear B0c1 B0c2 B0c3 B0c4 B0c5 B0c6); obtain ⟨B0c1, B0c2, B0c3, B0c4, B0c5, B0c6⟩ := Box.three (Hid.out B0); have := Box.lt (Hid.out B0)))
  ((replace hB := Below.on (Below.on hB (by ((repeat (first | assumption | exact Below.refl _ _ | refine Below.drew ?_ | refine below_drewN ?_ _ | refine Below.alloc' ?_ _ | refine Below.setCell ?_ (by first | omega | (dsimp only; omega) | (simp; done) | (simp; omega)) _ | refine Below.alloc ?_ (by first | assumption | exact Nat.le_refl _ | omega | (simp; done) | (simp; omega)) _))))) hB4; have := Below.size hB))
  cases hi : ick neg xs
  · go_wp2_with fail
    go_ret
    exact ⟨by rw [HOK.out]; simp only [Raw.ok, show ickP neg xs = false from hi]; rfl, hB⟩
  · go_wp2_with fail
    refine (check_calls _ _ _ ys (HP'.out.1.below hB)).mono ?_
    rintro e w5 ⟨rfl, rfl⟩
    cases hy : okL ys
    · go_wp2_with fail
      go_ret
      exact ⟨by rw [HOK.out]; simp only [Raw.ok, hy]; simp, hB⟩
    · by_cases h0 : 0 < ys.length
      · have h0i : decide ((0 : Int) < (ys.length : Int)) = true := decide_eq_true (by omega)
        go_wp2_with fail
        refine (gcd_calls _ _ _ _ _ xs ys (HP.out.1.below hB) (HP'.out.1.below hB) hc hc' (HT.out.below hB) hsz).mono ?_
        rintro e w6 ⟨v6, bs, rfl, hO, -, hB6⟩
        obtain ⟨A6, c6, rfl, hc6, hp6⟩ := hO.reads
        have HP6 := Lib.hid hp6
        clear hO hp6
        ((replace hB := Below.on (Below.on hB (by ((repeat (first | assumption | exact Below.refl _ _ | refine Below.drew ?_ | refine below_drewN ?_ _ | refine Below.alloc' ?_ _ | refine Below.setCell ?_ (by first | omega | (dsimp only; omega) | (simp; done) | (simp; omega)) _ | refine Below.alloc ?_ (by first | assumption | exact Nat.le_refl _ | omega | (simp; done) | (simp; omega)) _))))) hB6; have := Below.size hB))
        go_wp2_with fail
        refine (is1_calls _ _ _ _ HP6.out).mono ?_
        rintro e w7 ⟨rfl, rfl⟩
        go_wp2_with fail
        go_ret
        refine ⟨?_, hB⟩
        have hxk : okL xs = true := by
          unfold ick at hi
          simp only [Bool.and_eq_true] at hi
          exact hi.1
        rw [HOK.out, digs_one, fval_ok hy, fval_ok hxk]
        simp only [Raw.ok, show ickP neg xs = true from hi, hy, decide_eq_true h0, Bool.true_and]
        rfl
      · have : ys = [] := List.eq_nil_of_length_eq_zero (by omega)
        subst this
        go_wp2_with fail
        go_ret
        exact ⟨by rw [HOK.out]; simp [Raw.ok], hB⟩

theorem OwnQ.ofInt {w : World} {s s' : Value} {n : Int} {b1 b2 : List Nat} (h : Own w s n.natAbs b1) (h' : Own w s' 1 b2) : OwnQ w (.agg #[.bool (decide (n < 0)), s, s']) (n : Rat) (b1 ++ b2) := ⟨s, s', b1, b2, rfl, rfl, h, h'⟩
theorem Own.set3 {w : World} {v : Value} {n : Nat} {bs : List Nat} (h : Own w v n bs) {g : Nat} {t : TypeId} {cs : Array Value} (hx : Box w g t cs) (ht : t ≠ 62) (a b c : Value) : Own (((w.setCell ⟨g, 0, none⟩ a).setCell ⟨g, 1, none⟩ b).setCell ⟨g, 2, none⟩ c) v n bs :=
  ((h.set hx ht 0 a).set (hx.set 0 a) ht 1 b).set ((hx.set 0 a).set 1 b) ht 2 c
theorem one_own (w : World) : Own (w.alloc (.cells #[.int .u32 1] 62)) (.slice (some ⟨w.heap.size, 0, none⟩) 1 1) 1 [w.heap.size] := by
  have h := Own.of_blk (Blk.new w [1]) (by intro x hx; rw [List.mem_singleton] at hx; subst hx; decide) (by decide)
  have h1 : val [1] = 1 := rfl
  have h2 : cutN [1] = 1 := by unfold cutN; rw [h1]; have := digs_one 1; simp at this; rw [this]; rfl
  rw [h1, h2] at h
  exact h

set_option maxRecDepth 100000 in
set_option maxHeartbeats 4000000 in
theorem rofn_calls (w : World) (n : Int) (h1 : -9223372036854775808 ≤ n) (h2 : n ≤ 9223372036854775807) :
    Calls Tryz.prog 12 #[.int .i64 n] w fun e w' => ∃ v bs, e = .returned v ∧ OwnQ w' v (n : Rat) bs ∧ Fresh w.heap.size w' bs ∧ Below w.heap.size w w' := by
  obtain ⟨w3, h3, hB, b0⟩ := boxes1 w 36 #[.bool false, .slice none 0 0, .slice none 0 0]
  have H3 := Lib.hid h3
  have B0 := Lib.hid b0
  have hs0 := hB.size
  clear h3 b0
  go_enter Tryz.func12, Tryz.ntmps12
  go_wp2_with fail
  rw [← H3.out]
  refine (iofn_calls _ n h1 h2).mono ?_
  rintro e w4 ⟨v4, bs, rfl, ⟨s4, rfl, hO⟩, hF, hB4⟩
  obtain ⟨A4, c4, rfl, -, -⟩ := hO.reads
  have HO := Lib.hid hO
  clear hO
  ((replace B0 := Lib.hid (Box.below (Box.below (Hid.out B0) (by ((repeat (first | assumption | exact Below.refl _ _ | refine Below.drew ?_ | refine below_drewN ?_ _ | refine Below.alloc' ?_ _ | refine Below.setCell ?_ (by first | omega | (dsimp only; omega) | (simp; done) | (simp; omega)) _ | refine Below.alloc ?_ (by first | assumption | exact Nat.le_refl _ | omega | (simp; done) | (simp; omega)) _))))) hB4); (try clear B0c1 B0c2 B0c3 B0c4 B0c5 B0c6); obtain ⟨B0c1, B0c2, B0c3, B0c4, B0c5, B0c6⟩ := Box.three (Hid.out B0); have := Box.lt (Hid.out B0)))
  ((replace hB := Below.on (Below.on hB (by ((repeat (first | assumption | exact Below.refl _ _ | refine Below.drew ?_ | refine below_drewN ?_ _ | refine Below.alloc' ?_ _ | refine Below.setCell ?_ (by first | omega | (dsimp only; omega) | (simp; done) | (simp; omega)) _ | refine Below.alloc ?_ (by first | assumption | exact Nat.le_refl _ | omega | (simp; done) | (simp; omega)) _))))) hB4; have := Below.size hB))
  have hs4 := hB4.size
  go_wp2_with fail
  refine bodyPost_ret (v := .agg #[.bool (decide (n < 0)), .slice A4 (digs n.natAbs).length c4, .slice (some ⟨w4.heap.size, 0, none⟩) 1 1]) (result_var rfl (g := w.heap.size) rfl (load_rat _ _ _ _ _ ((B0.out.put3 _ _ _).alloc _))) rfl ⟨_, bs ++ [w4.heap.size], rfl, ?_, ?_, by ((repeat (first | assumption | exact Below.refl _ _ | refine Below.drew ?_ | refine below_drewN ?_ _ | refine Below.alloc' ?_ _ | refine Below.setCell ?_ (by first | omega | (dsimp only; omega) | (simp; done) | (simp; omega)) _ | refine Below.alloc ?_ (by first | assumption | exact Nat.le_refl _ | omega | (simp; done) | (simp; omega)) _)))⟩
  · exact OwnQ.ofInt ((Own.set3 HO.out B0.out (by decide) _ _ _).below (by ((repeat (first | assumption | exact Below.refl _ _ | refine Below.drew ?_ | refine below_drewN ?_ _ | refine Below.alloc' ?_ _ | refine Below.setCell ?_ (by first | omega | (dsimp only; omega) | (simp; done) | (simp; omega)) _ | refine Below.alloc ?_ (by first | assumption | exact Nat.le_refl _ | omega | (simp; done) | (simp; omega)) _))))) (by simpa using one_own (((w4.setCell ⟨w.heap.size, 0, none⟩ (.bool (decide (n < 0)))).setCell ⟨w.heap.size, 1, none⟩ (.slice A4 (digs n.natAbs).length c4)).setCell ⟨w.heap.size, 2, none⟩ (.slice (some ⟨w4.heap.size, 0, none⟩) 1 1)))
  · exact Fresh.join (hF.low hs0) (fresh_one (Nat.le_refl _) (by simp)) (by simp) (by omega)

set_option maxRecDepth 100000 in
set_option maxHeartbeats 4000000 in
theorem rof_calls (w : World) (v : Value) (r : Raw) {B : Nat} (h : RawAt B w v r) (hT : Tab w) (hsz : r.xs.length + r.ys.length ≤ 8796093022000) (hBw : B ≤ w.heap.size) :
    Calls Tryz.prog 62 #[v] w fun e w' => ∃ v', e = .returned v' ∧ RawAt B w' v' (rawOf r.q) ∧ Below w.heap.size w w' := by
  obtain ⟨A, c, A', c', rfl, -, -, -, -⟩ := id h
  have HR := Lib.hid h
  have HT := Lib.hid hT
  clear h hT
  obtain ⟨w3, h3, hB, b0, b1⟩ := boxes2 w 36 36 #[.bool r.neg, .slice A r.xs.length c, .slice A' r.ys.length c'] #[.bool false, .slice none 0 0, .slice none 0 0]
  have H3 := Lib.hid h3
  have B0 := Lib.hid b0
  have B1 := Lib.hid b1
  have hs0 := hB.size
  clear h3 b0 b1
  go_enter Tryz.func62, Tryz.ntmps62
  go_wp2_with fail
  rw [← H3.out]
  refine (rcheck_calls _ _ r (HR.out.below hB) (HT.out.below hB) hsz).mono ?_
  rintro e w4 ⟨rfl, hB4⟩
  ((replace B0 := Lib.hid (Box.below (Box.below (Hid.out B0) (by ((repeat (first | assumption | exact Below.refl _ _ | refine Below.drew ?_ | refine below_drewN ?_ _ | refine Below.alloc' ?_ _ | refine Below.setCell ?_ (by first | omega | (dsimp only; omega) | (simp; done) | (simp; omega)) _ | refine Below.alloc ?_ (by first | assumption | exact Nat.le_refl _ | omega | (simp; done) | (simp; omega)) _))))) hB4); (try clear B0c1 B0c2 B0c3 B0c4 B0c5 B0c6); obtain ⟨B0c1, B0c2, B0c3, B0c4, B0c5, B0c6⟩ := Box.three (Hid.out B0); have := Box.lt (Hid.out B0)))
  ((replace B1 := Lib.hid (Box.below (Box.below (Hid.out B1) (by ((repeat (first | assumption | exact Below.refl _ _ | refine Below.drew ?_ | refine below_drewN ?_ _ | refine Below.alloc' ?_ _ | refine Below.setCell ?_ (by first | omega | (dsimp only; omega) | (simp; done) | (simp; omega)) _ | refine Below.alloc ?_ (by first | assumption | exact Nat.le_refl _ | omega | (simp; done) | (simp; omega)) _))))) hB4); (try clear B1c1 B1c2 B1c3 B1c4 B1c5 B1c6); obtain ⟨B1c1, B1c2, B1c3, B1c4, B1c5, B1c6⟩ := Box.three (Hid.out B1); have := Box.lt (Hid.out B1)))
  ((replace hB := Below.on (Below.on hB (by ((repeat (first | assumption | exact Below.refl _ _ | refine Below.drew ?_ | refine below_drewN ?_ _ | refine Below.alloc' ?_ _ | refine Below.setCell ?_ (by first | omega | (dsimp only; omega) | (simp; done) | (simp; omega)) _ | refine Below.alloc ?_ (by first | assumption | exact Nat.le_refl _ | omega | (simp; done) | (simp; omega)) _))))) hB4; have := Below.size hB))
  cases hok : r.ok
  · have hq : r.q = ((0 : Int) : Rat) := by unfold Raw.q; rw [hok]; rfl
    have HQ := Lib.hid hq
    clear hq
    go_wp2_with fail
    refine (rofn_calls _ 0 (by decide) (by decide)).mono ?_
    rintro e w5 ⟨v5, bs, rfl, hO, hF, hB5⟩
    obtain ⟨A5, c5, A5', c5', rfl, -, -, -, -⟩ := id (hO.reads 0)
    have HO := Lib.hid (hO.reads B)
    clear hO
    ((replace B1 := Lib.hid (Box.below (Box.below (Hid.out B1) (by ((repeat (first | assumption | exact Below.refl _ _ | refine Below.drew ?_ | refine below_drewN ?_ _ | refine Below.alloc' ?_ _ | refine Below.setCell ?_ (by first | omega | (dsimp only; omega) | (simp; done) | (simp; omega)) _ | refine Below.alloc ?_ (by first | assumption | exact Nat.le_refl _ | omega | (simp; done) | (simp; omega)) _))))) hB5); (try clear B1c1 B1c2 B1c3 B1c4 B1c5 B1c6); obtain ⟨B1c1, B1c2, B1c3, B1c4, B1c5, B1c6⟩ := Box.three (Hid.out B1); have := Box.lt (Hid.out B1)))
    ((replace hB := Below.on (Below.on hB (by ((repeat (first | assumption | exact Below.refl _ _ | refine Below.drew ?_ | refine below_drewN ?_ _ | refine Below.alloc' ?_ _ | refine Below.setCell ?_ (by first | omega | (dsimp only; omega) | (simp; done) | (simp; omega)) _ | refine Below.alloc ?_ (by first | assumption | exact Nat.le_refl _ | omega | (simp; done) | (simp; omega)) _))))) hB5; have := Below.size hB))
    go_wp2_with fail
    refine bodyPost_ret (v := .agg #[_, _, _]) (result_var rfl (g := w.heap.size + 1) rfl (load_rat _ _ _ _ _ (B1.out.put3 _ _ _))) rfl ⟨_, rfl, ?_, by ((repeat (first | assumption | exact Below.refl _ _ | refine Below.drew ?_ | refine below_drewN ?_ _ | refine Below.alloc' ?_ _ | refine Below.setCell ?_ (by first | omega | (dsimp only; omega) | (simp; done) | (simp; omega)) _ | refine Below.alloc ?_ (by first | assumption | exact Nat.le_refl _ | omega | (simp; done) | (simp; omega)) _)))⟩
    rw [HQ.out]
    exact HO.out.set3 B1.out (by decide) (by omega) _ _ _
  · go_wp2_with fail
    refine bodyPost_ret (v := .agg #[_, _, _]) (result_var rfl (g := w.heap.size + 1) rfl (load_rat _ _ _ _ _ (B1.out.put3 _ _ _))) rfl ⟨_, rfl, ?_, by ((repeat (first | assumption | exact Below.refl _ _ | refine Below.drew ?_ | refine below_drewN ?_ _ | refine Below.alloc' ?_ _ | refine Below.setCell ?_ (by first | omega | (dsimp only; omega) | (simp; done) | (simp; omega)) _ | refine Below.alloc ?_ (by first | assumption | exact Nat.le_refl _ | omega | (simp; done) | (simp; omega)) _)))⟩
    exact ((HR.out.below hB).of_ok hok).set3 B1.out (by decide) (by omega) _ _ _

set_option maxRecDepth 100000 in
set_option maxHeartbeats 4000000 in
theorem lowest_calls (w : World) (v : Value) (z : Int) (A' : Option Addr) (c' d : Nat) {B : Nat} (hz : RInt B w v z) (hd : Parts w A' (digs d)) (hc' : (digs d).length ≤ c') (h0 : d ≠ 0) (hT : Tab w) (hsz : (digs z.natAbs).length + (digs d).length ≤ 8796093022000) :
    Calls Tryz.prog 95 #[v, .slice A' (digs d).length c'] w fun e w' => ∃ v bs, e = .returned v ∧ OwnQ w' v (mkRat z d) bs ∧ Fresh w.heap.size w' bs ∧ Below w.heap.size w w' := by
  obtain ⟨A, c, rfl, hc, hp⟩ := hz
  have HP := Lib.hid hp
  have HD := Lib.hid hd
  have HT := Lib.hid hT
  clear hp hd hT
  obtain ⟨q, hq⟩ : ∃ q, q = mkRat z d := ⟨_, rfl⟩
  obtain ⟨e1, e2, e3⟩ := low_is z d h0
  rw [← hq] at e1 e2 e3 ⊢
  have HQ := Lib.hid hq
  clear hq
  obtain ⟨w3, h3, hB, b0, b1⟩ := boxes2 w 34 36 #[.bool (decide (z < 0)), .slice A (digs z.natAbs).length c] #[.bool false, .slice none 0 0, .slice none 0 0]
  have H3 := Lib.hid h3
  have B0 := Lib.hid b0
  have B1 := Lib.hid b1
  have hs0 := hB.size
  clear h3 b0 b1
  obtain ⟨g, hg⟩ : ∃ g, g = Nat.gcd z.natAbs d := ⟨_, rfl⟩
  have hg0 : 0 < Nat.gcd z.natAbs d := Nat.gcd_pos_of_pos_right _ (by omega)
  have hgl : (digs (Nat.gcd z.natAbs d)).length ≤ (digs d).length := digs_length_mono (Nat.gcd_le_right _ (by omega))
  rw [← hg] at e1 e2 e3 hg0 hgl
  have hgp : 0 < (digs g).length := by have := digs_pos_len g; rw [decide_eq_true (show g ≠ 0 by omega)] at this; simpa using this
  have HG := Lib.hid hg
  have E1 := Lib.hid e1
  have E2 := Lib.hid e2
  have E3 := Lib.hid e3
  clear hg e1 e2 e3 hg0
  go_enter Tryz.func95, Tryz.ntmps95
  go_wp2_with fail
  rw [← H3.out]
  refine (gcd_calls _ _ _ _ _ (digs z.natAbs) (digs d) (HP.out.1.below hB) (HD.out.below hB) hc hc' (HT.out.below hB) hsz).mono ?_
  rw [fval_digs, fval_digs, ← HG.out]
  rintro e w4 ⟨v4, bg, rfl, hO, -, hB4⟩
  obtain ⟨A4, c4, rfl, hc4, hp4⟩ := hO.reads
  have HP4 := Lib.hid hp4
  clear hO hp4
  ((replace B0 := Lib.hid (Box.below (Box.below (Hid.out B0) (by ((repeat (first | assumption | exact Below.refl _ _ | refine Below.drew ?_ | refine below_drewN ?_ _ | refine Below.alloc' ?_ _ | refine Below.setCell ?_ (by first | omega | (dsimp only; omega) | (simp; done) | (simp; omega)) _ | refine Below.alloc ?_ (by first | assumption | exact Nat.le_refl _ | omega | (simp; done) | (simp; omega)) _))))) hB4); (try clear B0c1 B0c2 B0c3 B0c4); obtain ⟨B0c1, B0c2, B0c3, B0c4⟩ := Box.two (Hid.out B0); have := Box.lt (Hid.out B0)))
  ((replace B1 := Lib.hid (Box.below (Box.below (Hid.out B1) (by ((repeat (first | assumption | exact Below.refl _ _ | refine Below.drew ?_ | refine below_drewN ?_ _ | refine Below.alloc' ?_ _ | refine Below.setCell ?_ (by first | omega | (dsimp only; omega) | (simp; done) | (simp; omega)) _ | refine Below.alloc ?_ (by first | assumption | exact Nat.le_refl _ | omega | (simp; done) | (simp; omega)) _))))) hB4); (try clear B1c1 B1c2 B1c3 B1c4 B1c5 B1c6); obtain ⟨B1c1, B1c2, B1c3, B1c4, B1c5, B1c6⟩ := Box.three (Hid.out B1); have := Box.lt (Hid.out B1)))
  ((replace hB := Below.on (Below.on hB (by ((repeat (first | assumption | exact Below.refl _ _ | refine Below.drew ?_ | refine below_drewN ?_ _ | refine Below.alloc' ?_ _ | refine Below.setCell ?_ (by first | omega | (dsimp only; omega) | (simp; done) | (simp; omega)) _ | refine Below.alloc ?_ (by first | assumption | exact Nat.le_refl _ | omega | (simp; done) | (simp; omega)) _))))) hB4; have := Below.size hB))
  go_wp2_with fail
  refine (div_calls _ _ _ _ _ (digs z.natAbs) (digs g) (HP.out.1.below hB) HP4.out hc hc4 (okL_digs _) (okL_digs _) hgp (by omega)).mono ?_
  rw [val_digs, val_digs, ← E1.out]
  rintro e w5 ⟨v5, v5', b1, b2, rfl, hO5, -, hF5, hB5⟩
  obtain ⟨A5, c5, rfl, hc5, -⟩ := hO5.reads
  have HO5 := Lib.hid hO5
  have HF5 := Lib.hid hF5
  have s5 := hB5.size
  clear hO5 hF5
  have HP5 := Lib.hid (HP4.out.below hB5)
  ((replace B0 := Lib.hid (Box.below (Box.below (Hid.out B0) (by ((repeat (first | assumption | exact Below.refl _ _ | refine Below.drew ?_ | refine below_drewN ?_ _ | refine Below.alloc' ?_ _ | refine Below.setCell ?_ (by first | omega | (dsimp only; omega) | (simp; done) | (simp; omega)) _ | refine Below.alloc ?_ (by first | assumption | exact Nat.le_refl _ | omega | (simp; done) | (simp; omega)) _))))) hB5); (try clear B0c1 B0c2 B0c3 B0c4); obtain ⟨B0c1, B0c2, B0c3, B0c4⟩ := Box.two (Hid.out B0); have := Box.lt (Hid.out B0)))
  ((replace B1 := Lib.hid (Box.below (Box.below (Hid.out B1) (by ((repeat (first | assumption | exact Below.refl _ _ | refine Below.drew ?_ | refine below_drewN ?_ _ | refine Below.alloc' ?_ _ | refine Below.setCell ?_ (by first | omega | (dsimp only; omega) | (simp; done) | (simp; omega)) _ | refine Below.alloc ?_ (by first | assumption | exact Nat.le_refl _ | omega | (simp; done) | (simp; omega)) _))))) hB5); (try clear B1c1 B1c2 B1c3 B1c4 B1c5 B1c6); obtain ⟨B1c1, B1c2, B1c3, B1c4, B1c5, B1c6⟩ := Box.three (Hid.out B1); have := Box.lt (Hid.out B1)))
  ((replace hB := Below.on (Below.on hB (by ((repeat (first | assumption | exact Below.refl _ _ | refine Below.drew ?_ | refine below_drewN ?_ _ | refine Below.alloc' ?_ _ | refine Below.setCell ?_ (by first | omega | (dsimp only; omega) | (simp; done) | (simp; omega)) _ | refine Below.alloc ?_ (by first | assumption | exact Nat.le_refl _ | omega | (simp; done) | (simp; omega)) _))))) hB5; have := Below.size hB))
  go_wp2_with fail
  refine (div_calls _ _ _ _ _ (digs d) (digs g) (HD.out.below hB) HP5.out hc' hc4 (okL_digs _) (okL_digs _) hgp (by omega)).mono ?_
  rw [val_digs, val_digs, ← E2.out]
  rintro e w6 ⟨v6, v6', b3, b4, rfl, hO6, -, hF6, hB6⟩
  obtain ⟨A6, c6, rfl, hc6, -⟩ := hO6.reads
  have HO6 := Lib.hid hO6
  have HF6 := Lib.hid hF6
  have s6 := hB6.size
  clear hO6 hF6
  have HO5' := Lib.hid (HO5.out.below hB6)
  ((replace B0 := Lib.hid (Box.below (Box.below (Hid.out B0) (by ((repeat (first | assumption | exact Below.refl _ _ | refine Below.drew ?_ | refine below_drewN ?_ _ | refine Below.alloc' ?_ _ | refine Below.setCell ?_ (by first | omega | (dsimp only; omega) | (simp; done) | (simp; omega)) _ | refine Below.alloc ?_ (by first | assumption | exact Nat.le_refl _ | omega | (simp; done) | (simp; omega)) _))))) hB6); (try clear B0c1 B0c2 B0c3 B0c4); obtain ⟨B0c1, B0c2, B0c3, B0c4⟩ := Box.two (Hid.out B0); have := Box.lt (Hid.out B0)))
  ((replace B1 := Lib.hid (Box.below (Box.below (Hid.out B1) (by ((repeat (first | assumption | exact Below.refl _ _ | refine Below.drew ?_ | refine below_drewN ?_ _ | refine Below.alloc' ?_ _ | refine Below.setCell ?_ (by first | omega | (dsimp only; omega) | (simp; done) | (simp; omega)) _ | refine Below.alloc ?_ (by first | assumption | exact Nat.le_refl _ | omega | (simp; done) | (simp; omega)) _))))) hB6); (try clear B1c1 B1c2 B1c3 B1c4 B1c5 B1c6); obtain ⟨B1c1, B1c2, B1c3, B1c4, B1c5, B1c6⟩ := Box.three (Hid.out B1); have := Box.lt (Hid.out B1)))
  ((replace hB := Below.on (Below.on hB (by ((repeat (first | assumption | exact Below.refl _ _ | refine Below.drew ?_ | refine below_drewN ?_ _ | refine Below.alloc' ?_ _ | refine Below.setCell ?_ (by first | omega | (dsimp only; omega) | (simp; done) | (simp; omega)) _ | refine Below.alloc ?_ (by first | assumption | exact Nat.le_refl _ | omega | (simp; done) | (simp; omega)) _))))) hB6; have := Below.size hB))
  have E3' := E3.out
  rw [← E1.out] at E3'
  have HE := Lib.hid E3'
  clear E3'
  have hFr : Fresh w.heap.size w6 (b1 ++ b3) := by
    have h1 := (HF5.out.low (show w.heap.size ≤ w4.heap.size by omega))
    have h2 : Fresh w.heap.size w5 b1 := ⟨(List.nodup_append.1 h1.1).1, fun b hb => h1.2 b (List.mem_append_left _ hb)⟩
    have h3 := HF6.out
    have h4 : Fresh w5.heap.size w6 b3 := ⟨(List.nodup_append.1 h3.1).1, fun b hb => h3.2 b (List.mem_append_left _ hb)⟩
    exact h2.join h4 s6 (by omega)
  have HFr := Lib.hid hFr
  clear hFr
  cases hz : decide (z < 0)
  · have hE : decide (q.num < 0) = false := by rw [← HE.out, hz]; rfl
    have HE' := Lib.hid hE
    clear hE
    go_wp2_with fail
    refine bodyPost_ret (v := .agg #[.bool (decide (q.num < 0)), .slice A5 (digs q.num.natAbs).length c5, .slice A6 (digs q.den).length c6]) (result_var rfl (g := w.heap.size + 1) rfl (load_rat _ _ _ _ _ (by rw [HE'.out]; exact B1.out.put3 _ _ _))) rfl ⟨_, b1 ++ b3, rfl, ?_, HFr.out.up (by simp), by ((repeat (first | assumption | exact Below.refl _ _ | refine Below.drew ?_ | refine below_drewN ?_ _ | refine Below.alloc' ?_ _ | refine Below.setCell ?_ (by first | omega | (dsimp only; omega) | (simp; done) | (simp; omega)) _ | refine Below.alloc ?_ (by first | assumption | exact Nat.le_refl _ | omega | (simp; done) | (simp; omega)) _)))⟩
    exact OwnQ.set3 ⟨_, _, b1, b3, rfl, rfl, HO5'.out, HO6.out⟩ B1.out (by decide) _ _ _
  · have hE : decide (0 < (digs q.num.natAbs).length) = decide (q.num < 0) := by rw [← HE.out, hz]; rfl
    have HE' := Lib.hid hE
    clear hE
    go_wp2_with fail
    rw [HE'.out]
    refine bodyPost_ret (v := .agg #[.bool (decide (q.num < 0)), .slice A5 (digs q.num.natAbs).length c5, .slice A6 (digs q.den).length c6]) (result_var rfl (g := w.heap.size + 1) rfl (load_rat _ _ _ _ _ (B1.out.put3 _ _ _))) rfl ⟨_, b1 ++ b3, rfl, ?_, HFr.out.up (by simp), by ((repeat (first | assumption | exact Below.refl _ _ | refine Below.drew ?_ | refine below_drewN ?_ _ | refine Below.alloc' ?_ _ | refine Below.setCell ?_ (by first | omega | (dsimp only; omega) | (simp; done) | (simp; omega)) _ | refine Below.alloc ?_ (by first | assumption | exact Nat.le_refl _ | omega | (simp; done) | (simp; omega)) _)))⟩
    exact OwnQ.set3 ⟨_, _, b1, b3, rfl, rfl, HO5'.out, HO6.out⟩ B1.out (by decide) _ _ _

end Go.Proofs.YthofbikhomnjpaaGreatDoor
