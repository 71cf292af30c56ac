import Derived.Test.YthofbikhomnjpaaGreatDoorPure4
namespace Go.Proofs.YthofbikhomnjpaaGreatDoor
set_option linter.unusedVariables false
set_option linter.unusedSimpArgs false

theorem digs_len_iff (n k : Nat) : (digs n).length ≤ k ↔ n < pw k := by
  constructor
  · intro h
    have h1 := val_lt' (small_digs n)
    rw [val_digs] at h1
    exact Nat.lt_of_lt_of_le h1 (pw_mono h)
  · intro h
    induction k generalizing n with
    | zero => rw [pw_zero] at h; have : n = 0 := by omega
              subst this; simp [digs_zero]
    | succ k ih =>
      by_cases h0 : n = 0
      · subst h0; simp [digs_zero]
      · rw [digs_pos h0, List.length_cons]
        have : n / 4294967296 < pw k := by
          rw [pw_succ] at h
          exact Nat.div_lt_of_lt_mul h
        exact Nat.succ_le_succ (ih _ this)
theorem digs_len_mul (a b : Nat) : (digs (a * b)).length ≤ (digs a).length + (digs b).length := by
  rw [digs_len_iff, pw_add]
  exact Nat.mul_lt_mul'' ((digs_len_iff a _).1 (Nat.le_refl _)) ((digs_len_iff b _).1 (Nat.le_refl _))
theorem digs_len_add {a b k : Nat} (ha : (digs a).length ≤ k) (hb : (digs b).length ≤ k) : (digs (a + b)).length ≤ k + 1 := by
  rw [digs_len_iff] at *
  rw [pw_succ]
  have := pw_pos k
  omega
theorem digs_len_small (n : Nat) (h : n < 4294967296) : (digs n).length ≤ 1 := by
  rw [digs_len_iff, pw_succ, pw_zero]; omega

/-- How many parts the numbers of a fraction have, at most. -/
def Fits (k : Nat) (q : Rat) : Prop := (digs q.num.natAbs).length ≤ k ∧ (digs q.den).length ≤ k
theorem Fits.mono {k m : Nat} {q : Rat} (h : Fits k q) (hm : k ≤ m) : Fits m q := ⟨Nat.le_trans h.1 hm, Nat.le_trans h.2 hm⟩
theorem mkRat_small (z : Int) (d : Nat) : (mkRat z d).num.natAbs ≤ z.natAbs ∧ (d ≠ 0 → (mkRat z d).den ≤ d) := by
  rw [Rat.num_mkRat, Rat.den_mkRat]
  constructor
  · split
    · simp
    · rw [Int.natAbs_ediv_of_dvd (Int.ofNat_dvd_left.2 (Nat.gcd_dvd_right d z.natAbs))]
      exact Nat.div_le_self _ _
  · intro h
    rw [if_neg h]
    exact Nat.div_le_self _ _
theorem fits_mkRat {z : Int} {d k : Nat} (hz : (digs z.natAbs).length ≤ k) (hd : (digs d).length ≤ k) (h0 : d ≠ 0) : Fits k (mkRat z d) :=
  ⟨Nat.le_trans (digs_length_mono (mkRat_small z d).1) hz, Nat.le_trans (digs_length_mono ((mkRat_small z d).2 h0)) hd⟩
theorem Fits.mul {a b : Rat} {k m : Nat} (ha : Fits k a) (hb : Fits m b) : Fits (k + m) (a * b) := by
  rw [Rat.mul_def']
  refine fits_mkRat ?_ ?_ (Nat.mul_ne_zero a.den_nz b.den_nz)
  · rw [Int.natAbs_mul]
    have := digs_len_mul a.num.natAbs b.num.natAbs
    have := ha.1; have := hb.1; omega
  · have := digs_len_mul a.den b.den
    have := ha.2; have := hb.2; omega
theorem cross_len {a b : Rat} {k m : Nat} (ha : Fits k a) (hb : Fits m b) : (digs (a.num * b.den).natAbs).length ≤ k + m ∧ (digs (b.num * a.den).natAbs).length ≤ k + m ∧ (digs (a.den * b.den)).length ≤ k + m := by
  refine ⟨?_, ?_, ?_⟩
  · rw [Int.natAbs_mul, Int.natAbs_natCast]
    have := digs_len_mul a.num.natAbs b.den
    have := ha.1; have := hb.2; omega
  · rw [Int.natAbs_mul, Int.natAbs_natCast]
    have := digs_len_mul b.num.natAbs a.den
    have := ha.2; have := hb.1; omega
  · have := digs_len_mul a.den b.den
    have := ha.2; have := hb.2; omega
theorem Fits.add {a b : Rat} {k m : Nat} (ha : Fits k a) (hb : Fits m b) : Fits (k + m + 1) (a + b) := by
  obtain ⟨h1, h2, h3⟩ := cross_len ha hb
  rw [Rat.add_def']
  refine fits_mkRat ?_ (by omega) (Nat.mul_ne_zero a.den_nz b.den_nz)
  exact Nat.le_trans (digs_length_mono (Int.natAbs_add_le _ _)) (digs_len_add h1 h2)
theorem Fits.sub {a b : Rat} {k m : Nat} (ha : Fits k a) (hb : Fits m b) : Fits (k + m + 1) (a - b) := by
  obtain ⟨h1, h2, h3⟩ := cross_len ha hb
  rw [Rat.sub_def']
  refine fits_mkRat ?_ (by omega) (Nat.mul_ne_zero a.den_nz b.den_nz)
  exact Nat.le_trans (digs_length_mono (Int.natAbs_sub_le _ _)) (digs_len_add h1 h2)
theorem fits_int {n : Int} (h : n.natAbs < 4294967296) : Fits 1 (n : Rat) := ⟨digs_len_small _ h, digs_len_small _ (by show (1 : Nat) < _; decide)⟩

/-- A fraction by two numbers, the sign of that below told by the one above. -/
def over (a b : Int) : Rat := if b < 0 then mkRat (-a) b.natAbs else mkRat a b.natAbs
theorem over_eq (a b : Int) (h : b ≠ 0) : over a b = Rat.divInt a b := by
  unfold over
  split
  · rename_i h1
    rw [← Rat.divInt_ofNat, Int.ofNat_natAbs_of_nonpos (by omega), Rat.neg_divInt_neg]
  · rw [← Rat.divInt_ofNat, Int.natAbs_of_nonneg (by omega)]
theorem over_cross (a b : Rat) (h : b ≠ 0) : over (a.num * b.den) (b.num * a.den) = a / b := by
  have hn : b.num ≠ 0 := fun h1 => h (Rat.num_eq_zero.1 h1)
  have ha : (a.den : Int) ≠ 0 := by have := a.den_nz; omega
  rw [over_eq _ _ (Int.mul_ne_zero hn ha), Rat.div_def, Rat.inv_def]
  conv => rhs; rw [← Rat.num_divInt_den a]
  rw [Rat.divInt_mul_divInt, Int.mul_comm b.num]
theorem Fits.div {a b : Rat} {k m : Nat} (ha : Fits k a) (hb : Fits m b) (h : b ≠ 0) : Fits (k + m) (a / b) := by
  obtain ⟨h1, h2, h3⟩ := cross_len ha hb
  rw [← over_cross a b h]
  have hn : b.num ≠ 0 := fun h1 => h (Rat.num_eq_zero.1 h1)
  have ha : (a.den : Int) ≠ 0 := by have := a.den_nz; omega
  have hp : (b.num * a.den).natAbs ≠ 0 := by have := Int.mul_ne_zero hn ha; omega
  unfold over
  split
  · exact fits_mkRat (by rw [Int.natAbs_neg]; exact h1) h2 hp
  · exact fits_mkRat h1 h2 hp
theorem digs_pos_len (n : Nat) : decide (0 < (digs n).length) = decide (n ≠ 0) := by
  rw [decide_eq_decide]
  constructor
  · rintro h rfl; rw [digs_zero] at h; exact absurd h (by simp)
  · intro h
    rcases Nat.eq_zero_or_pos (digs n).length with h1 | h1
    · exact absurd (digs_eq_nil.1 (List.eq_nil_of_length_eq_zero h1)) h
    · exact h1
theorem low_is (z : Int) (d : Nat) (h : d ≠ 0) : (mkRat z d).num.natAbs = z.natAbs / Nat.gcd z.natAbs d ∧ (mkRat z d).den = d / Nat.gcd z.natAbs d ∧
    (decide (z < 0) && decide (0 < (digs (z.natAbs / Nat.gcd z.natAbs d)).length)) = decide ((mkRat z d).num < 0) := by
  have hg : 0 < Nat.gcd z.natAbs d := Nat.gcd_pos_of_pos_right _ (by omega)
  have hd : ((Nat.gcd z.natAbs d : Nat) : Int) ∣ z := Int.ofNat_dvd_left.2 (Nat.gcd_dvd_left z.natAbs d)
  rw [Rat.num_mkRat, Rat.den_mkRat, if_neg h, if_neg h, Nat.gcd_comm d z.natAbs]
  refine ⟨by rw [Int.natAbs_ediv_of_dvd hd]; rfl, rfl, ?_⟩
  obtain ⟨g, hgd⟩ : ∃ g, g = Nat.gcd z.natAbs d := ⟨_, rfl⟩
  rw [← hgd] at hd hg ⊢
  obtain ⟨k, hk⟩ := hd
  have hm : z.natAbs = g * k.natAbs := by have := congrArg Int.natAbs hk; rwa [Int.natAbs_mul, Int.natAbs_natCast] at this
  have hq : z / (g : Int) = k := by
    rw [hk]; exact Int.mul_ediv_cancel_left k (by omega)
  rw [hq, digs_pos_len, hm, Nat.mul_div_cancel_left _ hg]
  have hs : z < 0 ↔ k < 0 := by
    rw [hk]
    constructor
    · intro h1
      rcases (show k < 0 ∨ 0 ≤ k by omega) with h2 | h2
      · exact h2
      · have := Int.mul_nonneg (show (0 : Int) ≤ (g : Int) by omega) h2; omega
    · intro h1; exact Int.mul_neg_of_pos_of_neg (by omega) h1
  by_cases h1 : k < 0
  · rw [decide_eq_true (hs.2 h1), decide_eq_true h1]; simp; omega
  · rw [decide_eq_false (fun h2 => h1 (hs.1 h2)), decide_eq_false h1]; simp

/-- A fraction as it lies: any sign, any parts. -/
structure Raw where
  neg : Bool
  xs : List Nat
  ys : List Nat
def ickP (neg : Bool) (xs : List Nat) : Bool := okL xs && (!neg || decide (0 < xs.length))
def ivalP (neg : Bool) (xs : List Nat) : Int := if neg then -(val xs : Int) else val xs
def Raw.ok (r : Raw) : Bool := ickP r.neg r.xs && okL r.ys && decide (0 < r.ys.length) && decide (Nat.gcd (val r.xs) (val r.ys) = 1)
def Raw.q (r : Raw) : Rat := if r.ok then mkRat (ivalP r.neg r.xs) (val r.ys) else 0
def Raw.le (r : Raw) (k : Nat) : Prop := r.xs.length ≤ k ∧ r.ys.length ≤ k
def Raw.small (r : Raw) : Prop := Small r.xs ∧ Small r.ys
def rawOf (q : Rat) : Raw := ⟨decide (q.num < 0), digs q.num.natAbs, digs q.den⟩
theorem rawOf_small (q : Rat) : (rawOf q).small := ⟨small_digs _, small_digs _⟩
theorem rawOf_le {q : Rat} {k : Nat} : (rawOf q).le k ↔ Fits k q := Iff.rfl
theorem ival_rawOf (q : Rat) : ivalP (rawOf q).neg (rawOf q).xs = q.num := by
  unfold ivalP rawOf
  dsimp only
  rw [val_digs]
  by_cases h : q.num < 0
  · rw [decide_eq_true h, if_pos rfl]; omega
  · rw [decide_eq_false h, if_neg (by decide)]; omega
theorem rawOf_ok (q : Rat) : (rawOf q).ok = true := by
  unfold Raw.ok ickP rawOf
  dsimp only
  rw [okL_digs, okL_digs, val_digs, val_digs, digs_pos_len, digs_pos_len, decide_eq_true q.reduced, decide_eq_true q.den_nz]
  by_cases h : q.num < 0
  · rw [decide_eq_true h, decide_eq_true (show q.num.natAbs ≠ 0 by omega)]; rfl
  · rw [decide_eq_false h]; rfl
theorem rawOf_q (q : Rat) : (rawOf q).q = q := by
  unfold Raw.q
  rw [rawOf_ok, if_pos rfl, ival_rawOf]
  show mkRat q.num (val (digs q.den)) = q
  rw [val_digs, Rat.mkRat_self]
theorem Raw.eq_rawOf {r : Raw} (hs : r.small) (h : r.ok = true) : r = rawOf r.q := by
  have hq : r.q = mkRat (ivalP r.neg r.xs) (val r.ys) := by unfold Raw.q; rw [h, if_pos rfl]
  obtain ⟨neg, xs, ys⟩ := r
  unfold Raw.ok ickP at h
  simp only [Bool.and_eq_true, decide_eq_true_eq, Bool.or_eq_true, Bool.not_eq_true'] at h
  obtain ⟨⟨⟨⟨hx, hn⟩, hy⟩, hl⟩, hg⟩ := h
  dsimp only at *
  have hy0 : val ys ≠ 0 := by
    intro h0
    have h1 := digs_val hs.2 hy
    dsimp only at h1
    rw [h0, digs_zero] at h1
    rw [← h1] at hl
    exact absurd hl (by simp)
  have ha : (ivalP neg xs).natAbs = val xs := by unfold ivalP; cases neg <;> simp
  obtain ⟨e1, e2, e3⟩ := low_is (ivalP neg xs) (val ys) hy0
  rw [ha, hg, Nat.div_one] at e1 e3
  rw [ha, hg, Nat.div_one] at e2
  unfold rawOf
  rw [hq, e1, e2, ← e3, digs_val hs.1 hx, digs_val hs.2 hy]
  congr 1
  unfold ivalP
  cases neg
  · simp; intro h; omega
  · simp only [Bool.true_eq_false, false_or] at hn
    have h0 : val xs ≠ 0 := by
      intro h0
      have h1 := digs_val hs.1 hx
      dsimp only at h1
      rw [h0, digs_zero] at h1
      rw [← h1] at hn
      exact absurd hn (by simp)
    simp [hn]; omega
theorem Raw.q_le {r : Raw} (hs : r.small) {k : Nat} (h : r.le k) (hk : 1 ≤ k) : Fits k r.q := by
  cases ho : r.ok
  · have : r.q = ((0 : Int) : Rat) := by unfold Raw.q; rw [ho]; rfl
    rw [this]; exact (fits_int (by decide)).mono hk
  · have := Raw.eq_rawOf hs ho
    rw [this] at h
    exact h

end Go.Proofs.YthofbikhomnjpaaGreatDoor
