import Derived.Test.YthofbikhomnjpaaGreatDoorPure2
/-! Division of a number by one of more parts: the guess, what is taken off, what is given back. -/
namespace Go.Proofs.YthofbikhomnjpaaGreatDoor
set_option linter.unusedVariables false
set_option linter.unusedSimpArgs false

/-- The test of the guess, as the code asks it, is the test by three parts. -/
theorem guess_test {top high next p2 g : Nat} (hg : g * high ≤ top) : (g * next > (top - g * high) * 4294967296 + p2) ↔ top * 4294967296 + p2 < g * (high * 4294967296 + next) := by
  have e : g * (high * 4294967296 + next) = g * high * 4294967296 + g * next := by rw [Nat.mul_add, Nat.mul_assoc]
  have e2 : (top - g * high) * 4294967296 = top * 4294967296 - g * high * 4294967296 := Nat.sub_mul ..
  have e3 := Nat.mul_le_mul_right 4294967296 hg
  rw [e, e2]; omega
/-- Where much is left over the guess is not too great. -/
theorem guess_big {top high next p2 g : Nat} (hg : g * high ≤ top) (hgl : g < 4294967296) (hn : next < 4294967296) (h : 4294967296 ≤ top - g * high) : ¬ (top * 4294967296 + p2 < g * (high * 4294967296 + next)) := by
  have e : g * (high * 4294967296 + next) = g * high * 4294967296 + g * next := by rw [Nat.mul_add, Nat.mul_assoc]
  have h1 : g * next ≤ 4294967295 * 4294967295 := Nat.mul_le_mul (by omega) (by omega)
  rw [e]; omega

theorem guess_start (top high : Nat) {t : Int} (ht : t = (top : Int)) (hh : 0 < high) : ∃ g0 : Nat, min (t / (high : Int)) 4294967295 = (g0 : Int) ∧ g0 * high ≤ top ∧ g0 < 4294967296 ∧ (g0 = 4294967295 ∨ top < (g0 + 1) * high) := by
  subst ht
  have e : (top : Int) / (high : Int) = ((top / high : Nat) : Int) := (Int.natCast_ediv _ _).symm
  have h1 := Nat.div_add_mod top high
  have h2 := Nat.mod_lt top hh
  rw [Nat.mul_comm] at h1
  rw [e]
  generalize top / high = q at *
  refine ⟨min q 4294967295, by omega, ?_, by omega, ?_⟩
  · rcases Nat.le_total q 4294967295 with h | h
    · rw [Nat.min_eq_left h]; omega
    · rw [Nat.min_eq_right h]; have := Nat.mul_le_mul_right high h; omega
  · rcases Nat.le_total q 4294967295 with h | h
    · rw [Nat.min_eq_left h, Nat.add_mul]; omega
    · rw [Nat.min_eq_right h]; exact .inl rfl

theorem guess_max {t h n g p2 : Nat} (hl : t < (g + 1) * h) (hp : p2 < 4294967296) : t * 4294967296 + p2 < (g + 1) * (h * 4294967296 + n) := by
  have h1 := Nat.mul_le_mul_right 4294967296 (show t + 1 ≤ (g + 1) * h from hl)
  rw [Nat.mul_add, ← Nat.mul_assoc]
  omega

/-- What is known of a number, the divisor, and the guess when the loop ends. -/
structure Knuth (P v q g : Nat) : Prop where
  low : q ≤ g
  up : g ≤ q + 1
  pos : q * v ≤ P
  rest : P - q * v < v

theorem knuth_low {T D p2 V E Pl vl g : Nat} (q : Nat) (hE : 0 < E) (hP : Pl < E) (h : q * (D * E + vl) ≤ T * E + Pl) : q * D ≤ T := by
  have h1 : q * D * E ≤ T * E + Pl := by
    have : q * (D * E + vl) = q * D * E + q * vl := by rw [Nat.mul_add, Nat.mul_assoc]
    omega
  rcases Nat.lt_or_ge T (q * D) with h2 | h2
  · have := Nat.mul_le_mul_right E (show T + 1 ≤ q * D from h2)
    rw [Nat.add_mul] at this; omega
  · exact h2
theorem knuth_up {T D E Pl vl g : Nat} (hE : 0 < E) (hvl : vl < E) (hg1 : 0 < g) (hgD : g * D ≤ T) (hD : g ≤ D + 1) : (g - 1) * (D * E + vl) ≤ T * E + Pl := by
  obtain ⟨k, rfl⟩ : ∃ k, g = k + 1 := ⟨g - 1, by omega⟩
  rw [Nat.add_sub_cancel]
  have h1 : (k + 1) * D * E ≤ T * E := Nat.mul_le_mul_right E hgD
  have h2 : (k + 1) * D * E = k * D * E + D * E := by rw [Nat.add_mul, Nat.add_mul, Nat.one_mul]
  have h3 : k * vl ≤ k * E := Nat.mul_le_mul_left k (by omega)
  have h4 : k * E ≤ D * E := Nat.mul_le_mul_right E (by omega)
  have h5 : k * (D * E + vl) = k * D * E + k * vl := by rw [Nat.mul_add, Nat.mul_assoc]
  omega
theorem knuth {P v T D E Pl vl g : Nat} (hE : 0 < E) (hP : P = T * E + Pl) (hPl : Pl < E) (hv : v = D * E + vl) (hvl : vl < E) (hPv : P < 4294967296 * v) (hgD : g * D ≤ T) (hgl : g < 4294967296) (hmax : g = 4294967295 ∨ T < (g + 1) * D) (hD : 4294967296 ≤ D) : Knuth P v (P / v) g := by
  have hv0 : 0 < v := by
    have := Nat.mul_le_mul hD (show 1 ≤ E from hE); omega
  have h1 := Nat.div_add_mod P v
  have h2 := Nat.mod_lt P hv0
  have hq1 : P / v * v ≤ P := by rw [Nat.mul_comm]; omega
  have hqD : P / v * D ≤ T := knuth_low (V := 0) (g := 0) (p2 := 0) (vl := vl) (P / v) hE hPl (by rw [← hv, ← hP]; exact hq1)
  have hq2 : P / v < 4294967296 := by rw [Nat.div_lt_iff_lt_mul hv0]; exact hPv
  have hq5 : 0 < g → g - 1 ≤ P / v := fun h0 => by
    have h4 := knuth_up (Pl := Pl) hE hvl h0 hgD (by omega)
    rw [← hv, ← hP] at h4
    rw [Nat.le_div_iff_mul_le hv0]; exact h4
  have hq6 : P - P / v * v < v := by rw [Nat.mul_comm]; generalize P / v = q at *; omega
  generalize P / v = q at *
  refine ⟨?_, ?_, hq1, hq6⟩
  · rcases hmax with h | h
    · omega
    · rcases Nat.lt_or_ge g q with h3 | h3
      · have := Nat.mul_le_mul_right D (show g + 1 ≤ q from h3); omega
      · exact h3
  · rcases Nat.eq_zero_or_pos g with h0 | h0
    · omega
    · have := hq5 h0; omega

/-- One round of taking off: what is owed stays below a part. -/
def owedN (x g y o : Nat) : Nat := (g * y + o) / 4294967296 + if x < (g * y + o) % 4294967296 then 1 else 0
def leftN (x g y o : Nat) : Nat := (x + 4294967296 - (g * y + o) % 4294967296) % 4294967296
theorem leftN_lt (x g y o : Nat) : leftN x g y o < 4294967296 := by unfold leftN; omega
theorem owedN_lt {x g y o : Nat} (hg : g < 4294967296) (hy : y < 4294967296) (ho : o < 4294967296) : owedN x g y o < 4294967296 := by
  have h1 : g * y ≤ 4294967295 * 4294967295 := Nat.mul_le_mul (by omega) (by omega)
  unfold owedN
  split <;> omega
theorem take_round {x g y o : Nat} (hx : x < 4294967296) : leftN x g y o + g * y + o = x + 4294967296 * owedN x g y o := by
  unfold leftN owedN
  generalize g * y = p
  split <;> omega
theorem take_off {v b w k x g y o : Nat} (hx : x < 4294967296) (h : v + g * b = w + o * pw k) :
    (v + leftN x g y o * pw k) + g * (b + y * pw k) = (w + x * pw k) + owedN x g y o * pw (k + 1) := by
  rw [pw_succ]
  have h1 := take_round (g := g) (y := y) (o := o) hx
  have h2 : (leftN x g y o + g * y + o) * pw k = (x + 4294967296 * owedN x g y o) * pw k := by rw [h1]
  rw [Nat.add_mul, Nat.add_mul, Nat.add_mul] at h2
  have h3 : 4294967296 * owedN x g y o * pw k = owedN x g y o * (4294967296 * pw k) := by rw [Nat.mul_comm 4294967296, Nat.mul_assoc]
  have h4 : g * (b + y * pw k) = g * b + g * y * pw k := by rw [Nat.mul_add, Nat.mul_assoc]
  omega

/-- What the rest is: the guess was right, or one too great. -/
theorem knuth_right {P v q g N l t o : Nat} (h : Knuth P v q g) (hvN : v ≤ N) (hl : l < N) (hP : l + g * v + t * N = P + o * N) (ho : ¬ t < o) : g = q ∧ t = o ∧ l = P - q * v := by
  have h0 := h.pos; have h2 := h.rest
  rcases (show g = q ∨ g = q + 1 by have := h.low; have := h.up; omega) with hg | hg
  · subst hg
    have h1 : t = o := by
      rcases Nat.lt_or_ge o t with h3 | h3
      · have := Nat.mul_le_mul_right N (show o + 1 ≤ t from h3)
        rw [Nat.add_mul] at this; omega
      · omega
    subst h1
    exact ⟨rfl, rfl, by omega⟩
  · subst hg
    rw [Nat.add_mul] at hP
    have : o * N ≤ t * N := Nat.mul_le_mul_right N (by omega)
    omega
theorem knuth_wrong {P v q g N l t o : Nat} (h : Knuth P v q g) (hvN : v ≤ N) (hl : l < N) (hP : l + g * v + t * N = P + o * N) (ho : t < o) : g = q + 1 ∧ N ≤ l + v ∧ l + v - N = P - q * v := by
  have h0 := h.pos; have h2 := h.rest
  rcases (show g = q ∨ g = q + 1 by have := h.low; have := h.up; omega) with hg | hg
  · subst hg
    have := Nat.mul_le_mul_right N (show t + 1 ≤ o from ho)
    rw [Nat.add_mul] at this; omega
  · subst hg
    rw [Nat.add_mul] at hP
    have h3 := Nat.mul_le_mul_right N (show t + 1 ≤ o from ho)
    rw [Nat.add_mul] at h3
    have h4 : o = t + 1 := by
      rcases Nat.lt_or_ge (t + 1) o with h5 | h5
      · have := Nat.mul_le_mul_right N (show t + 2 ≤ o from h5)
        rw [Nat.add_mul] at this; omega
      · omega
    subst h4
    rw [Nat.add_mul] at hP
    exact ⟨rfl, by omega, by omega⟩

theorem val_split (l : List Nat) (p : Nat) (h : p ≤ l.length) : val l = val (l.take p) + pw p * val (l.drop p) := by
  have h1 := val_append' (l.take p) (l.drop p)
  rwa [List.take_append_drop, List.length_take, Nat.min_eq_left h] at h1
theorem val_top2 (l : List Nat) (h : 2 ≤ l.length) : val l = (el l (l.length - 1) * 4294967296 + el l (l.length - 2)) * pw (l.length - 2) + val (l.take (l.length - 2)) := by
  have h1 := val_take_succ l (l.length - 2)
  have h2 := val_take_succ l (l.length - 1)
  rw [show l.length - 1 + 1 = l.length by omega, List.take_length] at h2
  rw [show l.length - 2 + 1 = l.length - 1 by omega] at h1
  rw [h2, h1, show l.length - 1 = l.length - 2 + 1 by omega, pw_succ, show l.length - 2 + 1 = l.length - 1 by omega, Nat.add_mul, Nat.mul_assoc]
  omega
theorem val_top3 (l : List Nat) (n : Nat) (hn : 2 ≤ n) (h : n < l.length) (hz : val (l.drop (n + 1)) = 0) : val l = ((el l n * 4294967296 + el l (n - 1)) * 4294967296 + el l (n - 2)) * pw (n - 2) + val (l.take (n - 2)) := by
  have h0 := val_split l (n + 1) (by omega)
  rw [hz, Nat.mul_zero, Nat.add_zero] at h0
  have h1 := val_take_succ l (n - 2)
  have h2 := val_take_succ l (n - 1)
  have h3 := val_take_succ l n
  rw [show n - 1 + 1 = n by omega] at h2
  rw [show n - 2 + 1 = n - 1 by omega] at h1
  have e1 : pw (n - 1) = 4294967296 * pw (n - 2) := by rw [← pw_succ, show n - 2 + 1 = n - 1 by omega]
  have e2 : pw n = 4294967296 * (4294967296 * pw (n - 2)) := by rw [← e1, ← pw_succ, show n - 1 + 1 = n by omega]
  rw [h0, h3, h2, h1, e1, e2, Nat.add_mul, Nat.add_mul, Nat.add_mul, Nat.mul_assoc, Nat.mul_assoc, Nat.mul_assoc]
  omega
theorem el_drop (l : List Nat) (p i : Nat) : el (l.drop p) i = el l (p + i) := by unfold el; rw [List.getElem?_drop]
theorem val_take_congr {a b : List Nat} (k : Nat) (h : ∀ i, i < k → el a i = el b i) : val (a.take k) = val (b.take k) := by
  induction k with
  | zero => rfl
  | succ k ih => rw [val_take_succ, val_take_succ, ih (fun i hi => h i (by omega)), h k (by omega)]

/-- What holds between two rounds of long: so many parts of the quotient are known. -/
structure LongRel (us vs R Q : List Nat) (j : Nat) : Prop where
  rl : R.length = us.length + 1
  ql : Q.length = us.length + 1 - vs.length
  rs : Small R
  qs : Small Q
  less : val (R.drop j) < val vs
  eq : val us = val vs * (val (Q.drop j) * pw j) + val R

theorem long_zero {us vs R Q : List Nat} {p : Nat} (hL : LongRel us vs R Q (p + 1)) (hs : Small vs) (hp : p + vs.length < us.length + 1) (hn : 1 ≤ vs.length) : val (R.drop (p + vs.length + 1)) = 0 := by
  have h1 := val_split (R.drop (p + 1)) vs.length (by rw [List.length_drop, hL.rl]; omega)
  rw [List.drop_drop, show p + 1 + vs.length = p + vs.length + 1 by omega] at h1
  have h2 := val_lt' hs
  have h3 := hL.less
  rcases Nat.eq_zero_or_pos (val (R.drop (p + vs.length + 1))) with h | h
  · exact h
  · have := Nat.le_mul_of_pos_right (pw vs.length) h; omega
theorem long_top {us vs R Q : List Nat} {p : Nat} (hL : LongRel us vs R Q (p + 1)) (hs : Small vs) (hp : p + vs.length < us.length + 1) (hn : 2 ≤ vs.length) :
    val (R.drop p) = ((el R (p + vs.length) * 4294967296 + el R (p + (vs.length - 1))) * 4294967296 + el R (p + (vs.length - 2))) * pw (vs.length - 2) + val ((R.drop p).take (vs.length - 2)) ∧ val (R.drop p) < 4294967296 * val vs := by
  refine ⟨?_, ?_⟩
  · have h := val_top3 (R.drop p) vs.length hn (by rw [List.length_drop, hL.rl]; omega) (by rw [List.drop_drop, show p + (vs.length + 1) = p + vs.length + 1 by omega]; exact long_zero hL hs hp (by omega))
    rwa [el_drop, el_drop, el_drop] at h
  · rw [val_drop_eq R p (by rw [hL.rl]; omega)]
    have := hL.less
    have := el_lt hL.rs p
    omega
theorem long_knuth {us vs R Q : List Nat} {p g : Nat} (hL : LongRel us vs R Q (p + 1)) (hs : Small vs) (hp : p + vs.length < us.length + 1) (hn : 2 ≤ vs.length) (htop : 0 < el vs (vs.length - 1))
    (hgl : g < 4294967296) (hgD : g * (el vs (vs.length - 1) * 4294967296 + el vs (vs.length - 2)) ≤ (el R (p + vs.length) * 4294967296 + el R (p + (vs.length - 1))) * 4294967296 + el R (p + (vs.length - 2)))
    (hmax : g = 4294967295 ∨ (el R (p + vs.length) * 4294967296 + el R (p + (vs.length - 1))) * 4294967296 + el R (p + (vs.length - 2)) < (g + 1) * (el vs (vs.length - 1) * 4294967296 + el vs (vs.length - 2))) :
    Knuth (val (R.drop p)) (val vs) (val (R.drop p) / val vs) g := by
  obtain ⟨h1, h2⟩ := long_top hL hs hp hn
  refine knuth (pw_pos _) h1 ?_ (val_top2 vs hn) ?_ h2 hgD hgl hmax (by omega)
  · have := val_lt' ((hL.rs.drop p).take (vs.length - 2))
    have h3 := pw_mono (show ((R.drop p).take (vs.length - 2)).length ≤ vs.length - 2 by rw [List.length_take]; omega)
    omega
  · have := val_lt' (hs.take (vs.length - 2))
    have h3 := pw_mono (show (vs.take (vs.length - 2)).length ≤ vs.length - 2 by rw [List.length_take]; omega)
    omega

/-- What a round leaves: R2 is R but for the parts from p on, where the rest stands now. -/
theorem long_round {us vs R R2 Q : List Nat} {p q : Nat} (hL : LongRel us vs R Q (p + 1)) (hp : p + vs.length < us.length + 1) (hn : 1 ≤ vs.length) (hs : Small vs)
    (hl : R2.length = R.length) (h2s : Small R2) (hq : q < 4294967296)
    (hlow : ∀ j, j < p → el R2 j = el R j) (hhigh : ∀ j, p + vs.length < j → el R2 j = el R j) (hmid : el R2 (p + vs.length) = 0)
    (hval : val ((R2.drop p).take vs.length) = val (R.drop p) - q * val vs) (hpos : q * val vs ≤ val (R.drop p)) (hless : val (R.drop p) - q * val vs < val vs) :
    LongRel us vs R2 (Q.set p q) p := by
  have hrl := hL.rl
  have hz := long_zero hL hs hp hn
  have hz2 : val (R2.drop (p + vs.length + 1)) = 0 := by
    rw [val_same (us := R2) (vs := R) (m := us.length + 1) (k := p + vs.length + 1) (by omega) (by omega) (fun i h1 h2 => hhigh i (by omega))]
    exact hz
  have hd : val (R2.drop p) = val (R.drop p) - q * val vs := by
    have h1 := val_split (R2.drop p) vs.length (by rw [List.length_drop]; omega)
    rw [List.drop_drop, val_drop_eq R2 (p + vs.length) (by omega), hmid, hz2] at h1
    rw [h1, hval]; simp
  have hQ : val ((Q.set p q).drop p) = q + 4294967296 * val (Q.drop (p + 1)) := val_drop_set Q p q (by rw [hL.ql]; omega)
  refine ⟨by omega, by rw [List.length_set]; exact hL.ql, h2s, hL.qs.set p hq, by rw [hd]; exact hless, ?_⟩
  have h1 := val_split R p (by omega)
  have h2 := val_split R2 p (by omega)
  have h3 : val (R2.take p) = val (R.take p) := val_take_congr p hlow
  have h4 := hL.eq
  rw [hQ, h2, h3, hd]
  rw [pw_succ, h1] at h4
  have e1 : pw p * (val (R.drop p) - q * val vs) + pw p * (q * val vs) = pw p * val (R.drop p) := by rw [← Nat.mul_add, Nat.sub_add_cancel hpos]
  have e2 : val vs * ((q + 4294967296 * val (Q.drop (p + 1))) * pw p) = pw p * (q * val vs) + val vs * (val (Q.drop (p + 1)) * (4294967296 * pw p)) := by
    rw [Nat.add_mul, Nat.mul_add]
    have f1 : val vs * (q * pw p) = pw p * (q * val vs) := by ac_rfl
    have f2 : 4294967296 * val (Q.drop (p + 1)) * pw p = val (Q.drop (p + 1)) * (4294967296 * pw p) := by rw [Nat.mul_comm 4294967296, Nat.mul_assoc]
    rw [f1, f2]
  rw [e2, h4]
  omega

theorem mid_set (l : List Nat) (p k x : Nat) (h : p + k < l.length) : val (((l.set (p + k) x).drop p).take (k + 1)) = val ((l.drop p).take k) + x * pw k := by
  rw [← List.set_drop, val_take_set _ _ _ (by rw [List.length_drop]; omega)]
theorem mid_succ (l : List Nat) (p k : Nat) : val ((l.drop p).take (k + 1)) = val ((l.drop p).take k) + el l (p + k) * pw k := by rw [val_take_succ, el_drop]

theorem long_owed {us vs R R1 Q : List Nat} {p g o : Nat} (hL : LongRel us vs R Q (p + 1)) (hs : Small vs) (hp : p + vs.length < us.length + 1) (hn : 2 ≤ vs.length) (h1s : Small R1)
    (hval : val ((R1.drop p).take vs.length) + g * val vs = val ((R.drop p).take vs.length) + o * pw vs.length) :
    val vs ≤ pw vs.length ∧ val ((R1.drop p).take vs.length) < pw vs.length ∧ val ((R1.drop p).take vs.length) + g * val vs + el R (p + vs.length) * pw vs.length = val (R.drop p) + o * pw vs.length := by
  refine ⟨Nat.le_of_lt (val_lt' hs), ?_, ?_⟩
  · have h1 := val_lt' ((h1s.drop p).take vs.length)
    have h2 := pw_mono (show ((R1.drop p).take vs.length).length ≤ vs.length by rw [List.length_take]; omega)
    omega
  · have h1 := val_split (R.drop p) vs.length (by rw [List.length_drop, hL.rl]; omega)
    rw [List.drop_drop, val_drop_eq R (p + vs.length) (by rw [hL.rl]; omega), long_zero hL hs hp (by omega), Nat.mul_zero, Nat.add_zero, Nat.mul_comm] at h1
    omega
theorem long_close {us vs R R1 Q : List Nat} {p g o : Nat} (hL : LongRel us vs R Q (p + 1)) (hs : Small vs) (hp : p + vs.length < us.length + 1) (hn : 2 ≤ vs.length)
    (HK : Knuth (val (R.drop p)) (val vs) (val (R.drop p) / val vs) g) (hl : R1.length = R.length) (h1s : Small R1) (hout : ∀ j, j < p ∨ p + vs.length ≤ j → el R1 j = el R j) (hg : g < 4294967296)
    (hval : val ((R1.drop p).take vs.length) + g * val vs = val ((R.drop p).take vs.length) + o * pw vs.length) (ho : ¬ el R (p + vs.length) < o) :
    LongRel us vs (R1.set (p + vs.length) 0) (Q.set p g) p := by
  obtain ⟨a1, a2, a3⟩ := long_owed hL hs hp hn h1s hval
  obtain ⟨b1, b2, b3⟩ := knuth_right HK a1 a2 a3 ho
  have hrl := hL.rl
  refine long_round (R := R) hL hp (by omega) hs (by rw [List.length_set]; exact hl) (h1s.set _ (by omega)) hg ?_ ?_ ?_ ?_ ?_ ?_
  · intro j hj; rw [el_set _ _ _ _ (by omega), if_neg (by omega)]; exact hout j (.inl hj)
  · intro j hj; rw [el_set _ _ _ _ (by omega), if_neg (by omega)]; exact hout j (.inr (by omega))
  · rw [el_set _ _ _ _ (by omega), if_pos rfl]
  · rw [b1, ← b3]; exact val_take_congr _ (fun i hi => by rw [el_drop, el_drop, el_set _ _ _ _ (by omega), if_neg (by omega)])
  · rw [b1]; exact HK.pos
  · rw [b1]; exact HK.rest
theorem long_close2 {us vs R R1 R2 Q : List Nat} {p g o cc : Nat} (hL : LongRel us vs R Q (p + 1)) (hs : Small vs) (hp : p + vs.length < us.length + 1) (hn : 2 ≤ vs.length)
    (HK : Knuth (val (R.drop p)) (val vs) (val (R.drop p) / val vs) g) (h1s : Small R1) (hl : R2.length = R.length) (h2s : Small R2) (hout : ∀ j, j < p ∨ p + vs.length ≤ j → el R2 j = el R j) (hg : g < 4294967296)
    (hval : val ((R1.drop p).take vs.length) + g * val vs = val ((R.drop p).take vs.length) + o * pw vs.length) (ho : el R (p + vs.length) < o) (hcc : cc ≤ 1)
    (hval2 : val ((R2.drop p).take vs.length) + cc * pw vs.length = val ((R1.drop p).take vs.length) + val vs) :
    LongRel us vs (R2.set (p + vs.length) 0) (Q.set p (g - 1)) p := by
  obtain ⟨a1, a2, a3⟩ := long_owed hL hs hp hn h1s hval
  obtain ⟨b1, b2, b3⟩ := knuth_wrong HK a1 a2 a3 ho
  have hrl := hL.rl
  have c1 : val ((R2.drop p).take vs.length) < pw vs.length := by
    have h1 := val_lt' ((h2s.drop p).take vs.length)
    have h2 := pw_mono (show ((R2.drop p).take vs.length).length ≤ vs.length by rw [List.length_take]; omega)
    omega
  have c2 : val ((R2.drop p).take vs.length) = val (R.drop p) - val (R.drop p) / val vs * val vs := by
    rw [← b3]
    rcases (show cc = 0 ∨ cc = 1 by omega) with h | h
    · subst h; omega
    · subst h; omega
  have b4 : g - 1 = val (R.drop p) / val vs := by generalize val (R.drop p) / val vs = q at *; omega
  refine long_round (R := R) hL hp (by omega) hs (by rw [List.length_set]; exact hl) (h2s.set _ (by omega)) (by omega) ?_ ?_ ?_ ?_ ?_ ?_
  · intro j hj; rw [el_set _ _ _ _ (by omega), if_neg (by omega)]; exact hout j (.inl hj)
  · intro j hj; rw [el_set _ _ _ _ (by omega), if_neg (by omega)]; exact hout j (.inr (by omega))
  · rw [el_set _ _ _ _ (by omega), if_pos rfl]
  · rw [b4, ← c2]; exact val_take_congr _ (fun i hi => by rw [el_drop, el_drop, el_set _ _ _ _ (by omega), if_neg (by omega)])
  · rw [b4]; exact HK.pos
  · rw [b4]; exact HK.rest

end Go.Proofs.YthofbikhomnjpaaGreatDoor
